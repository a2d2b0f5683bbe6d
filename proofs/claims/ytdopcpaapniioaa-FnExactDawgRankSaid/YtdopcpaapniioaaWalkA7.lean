/-
  Walks of the functions. Printed by gen.py.
-/
import Derived.Test.YtdopcpaapniioaaWalkA6
set_option linter.unusedVariables false
namespace Go.Proofs.Ytdopcpaapniioaa
open Go Go.Fk Go.RowKit

theorem ok_laws_toStateS (F : Nat) {w : World} {K : KMap} {a1 : Option Addr} {n2 c3 : Nat} {p0_a : List GState} {r : (List GState)} (hS : SH w K [] w K []) (hs4 : SliceAt tGState K a1 n2 c3 p0_a) (hm : M.laws_toStateS F p0_a = some r) :
    Calls Try.prog 42 #[.slice a1 n2 c3] w fun e w' => ∃ (a_1 : Option Addr) (n_2 c_3 : Nat) (K' : KMap), e = .returned (.slice a_1 n_2 c_3) ∧ SH w K [] w' K' [tail (.slice a_1 n_2 c_3) 33 3] ∧ SliceAt tGState K' a_1 n_2 c_3 r := by
  rw [M.laws_toStateS] at hm
  refine calls_in Try.func42 rfl Try.ntmps42 rfl ?_
  refine wc_seq ?_
  refine wc_region ?_
  refine wl_val wn rfl (rv_assign (v := .slice none 0 0) rfl) ?_
  refine wl_nil ?_
  refine qe_seq ?_
  refine wc_seq ?_
  refine wc_region ?_
  refine wl_val wn rfl (rv_move rfl) ?_
  refine wl_val wn rfl (rv_len (t := tGState) Try.underlying51 rfl hs4) ?_
  obtain ⟨x5, hx6, h7⟩ := Option.bind_eq_some_iff.1 hm
  refine wl_make (t := tGState) wn rfl Try.underlying28 tf33 rfl rfl rfl hx6 ⟨none, 0, 0, rfl, (by decide : rng64 0), (SliceAt.nil _ _)⟩ hS ?_
  intro g8 cs9 w10 hmx13 hrow11 hS12
  obtain ⟨m14, hm15⟩ : ∃ m, m = x5.length := ⟨_, rfl⟩
  rw [← hm15] at hmx13
  rw [← hm15]
  refine wl_val wn rfl (rv_assign rfl) ?_
  refine wl_nil ?_
  refine qe_seq ?_
  refine wc_seq ?_
  refine wc_seq ?_
  refine wc_region ?_
  refine wl_val wn rfl (rv_assign (v := .int .i64 0) rfl) ?_
  refine wl_nil ?_
  refine qe_seq ?_
  obtain ⟨o16, h17, h18⟩ := Option.bind_eq_some_iff.1 h7
  refine wc_cutg (fun E' w' => ∃ (cs23 : List Value) (K19 : KMap), E' = [(3, .slice (some ⟨g8, 0, none⟩) m14 m14)] ∧ SH w K [] w' K19 [obj g8 cs23 33] ∧ KLe K K19 ∧ RowAt true tGState K19 cs23 o16 ∧ m14 = o16.length) ?_ ?_
  · refine wc_block ?_
    obtain ⟨r27, h28, h29⟩ := Option.bind_eq_some_iff.1 h17
    refine wc_while' (fun (s26 : Int × (List GState)) E' w' => ∃ (cs35 : List Value) (K30 : KMap), E' = [(0, .slice a1 n2 c3), (3, .slice (some ⟨g8, 0, none⟩) m14 m14), (4, .int .i64 s26.1)] ∧ SH w K [] w' K30 [obj g8 cs35 33] ∧ KLe K K30 ∧ rng64 s26.1 ∧ RowAt true tGState K30 cs35 s26.2 ∧ m14 = s26.2.length) h28 ⟨cs9, K, rfl, hS12, (KLe.refl _), (by decide : rng64 0), hrow11, hm15⟩ ⟨rfl, rfl, rfl, trivial⟩ ?_
    rintro s26 _ w32 r38 h39 hx40 ⟨cs35, K30, rfl, hS33, hl31, hr34, hrow36, hm37⟩
    refine wc_seq ?_
    refine wc_seq ?_
    refine wc_region ?_
    refine wl_val wn rfl (rv_move rfl) ?_
    refine wl_val wn rfl (rv_move rfl) ?_
    refine wl_val wn rfl (rv_len (t := tGState) Try.underlying51 rfl (SliceAt.mono hl31 hs4)) ?_
    refine wl_val wn rfl (rv_lss rfl rfl) ?_
    refine wl_nil ?_
    refine qe_seq ?_
    refine wc_cond rfl (fun hb41 => ?_) (fun hb41 => ?_)
    · have h42 := cond_t hb41 h39
      refine wc_skip ?_
      refine qe_seq ?_
      refine wc_seq ?_
      refine wc_block ?_
      refine wc_region ?_
      refine wl_val wn rfl (rv_move rfl) ?_
      refine wl_val wn rfl (rv_move rfl) ?_
      refine wl_val wn rfl (rv_move rfl) ?_
      refine wl_val wn rfl (rv_move rfl) ?_
      obtain ⟨x43, hx44, h45⟩ := Option.bind_eq_some_iff.1 h42
      refine wl_indexAddr (t := tGState) wn rfl Try.underlying51 tf85 rfl rfl (SliceAt.mono hl31 hs4) hx44 ?_
      intro b46 o47 u48 hu49 ha50
      obtain ⟨a52, n53, c54, rfl, hr51, hs55⟩ := hu49
      have ha56 : AtK _ b46 o47 [.bool x43.Final, .int .i64 x43.Many, .slice a52 n53 c54] := ha50
      refine wl_val wn rfl (rv_loadS (cs := [.bool x43.Final, .int .i64 x43.Many, .slice a52 n53 c54]) tf85 rfl hS33 ha56 rfl) ?_
      obtain ⟨r57, hx58, h59⟩ := Option.bind_eq_some_iff.1 h45
      refine wl_call wn rfl (rt_call (vs := [.agg #[.bool x43.Final, .int .i64 x43.Many, .slice a52 n53 c54]]) co72 rfl) ((ok_laws_toState F) hS33.enter0 hr51 hs55 hx58) ?_
      rintro e68 w61 ⟨a64, n65, c66, K60, rfl, hS62, hr63, hs67⟩
      refine ⟨_, rfl, ?_⟩
      have hS69 : SH _ _ _ _ _ [_] := SH.call0 hS33 hS62
      obtain ⟨x70, hx71, h72⟩ := Option.bind_eq_some_iff.1 h59
      obtain ⟨u73, hu74, hk75⟩ := RowAt.at (RowAt.mono hS62.le hrow36) hx71
      obtain ⟨a78, n79, c80, rfl, hr77, hs81⟩ := hu74
      have hk76 : ∀ (j : Nat) (d : Value), [.bool x70.Final, .int .i64 x70.Many, .slice a78 n79 c80][j]? = some d → cs35[s26.1.toNat * tGState.size + j]? = some d := hk75
      refine wl_val wn rfl (rv_indexRow (t := tGState) Try.underlying28 tf33 rfl rfl hm37 hx71) ?_
      refine wl_storeRow (t := tGState) (v := .agg #[.bool r57.Final, .int .i64 r57.Many, .slice a64 n65 c66]) (e := r57) wn tf33 rfl rfl ⟨a64, n65, c66, rfl, hr63, hs67⟩ hS69 (RowAt.mono hS62.le hrow36) hx71 ?_
      intro cs82 w83 hrow84 hS85
      have hm86 := hm37.trans (List.length_set (i := s26.1.toNat) (a := r57)).symm
      refine wl_nil ?_
      refine qe_block ?_
      refine qe_seq ?_
      refine wc_region ?_
      refine wl_val wn rfl (rv_move rfl) ?_
      refine wl_val wn rfl (rv_add rfl rfl) ?_
      refine wl_val wn rfl (rv_assign rfl) ?_
      refine wl_nil ?_
      obtain rfl := Option.some.inj h72
      exact qe_mid' ⟨_, rfl, cs82, K60, rfl, hS85, (hl31.trans hS62.le), (w64_rng _), hrow84, hm86⟩ ⟨rfl, rfl, rfl, trivial⟩
    · have h42 := cond_f hb41 h39
      refine wc_exit ?_
      refine qe_then_exit ?_
      refine qe_then_exit ?_
      obtain rfl := Option.some.inj h42
      have e87 := hx40 _ rfl
      subst e87
      refine qe_block_eq ?_
      obtain rfl := Option.some.inj h29
      exact qe_mid' ⟨cs35, K30, rfl, hS33, hl31, hrow36, hm37⟩ ⟨rfl, trivial⟩
  · rintro _ w21 ⟨cs23, K19, rfl, hS22, hl20, hrow24, hm25⟩
    refine qe_seq ?_
    refine wc_seq ?_
    refine wc_region ?_
    refine wl_val wn rfl (rv_move rfl) ?_
    refine wl_val wn rfl (rv_assign rfl) ?_
    refine wl_nil ?_
    refine qe_seq ?_
    refine wc_ret ?_
    obtain ⟨K88, hl89, hs90, hS91⟩ := SH.freeze hS22 hrow24 (row_max hm25 hmx13)
    rw [← hm25] at hs90 hS91
    obtain rfl := Option.some.inj h18
    exact qe_ret (vs := [_]) Try.results42 ⟨rfl, trivial⟩ ⟨(some ⟨g8, 0, none⟩), m14, m14, K88, rfl, hS91, hs90⟩

theorem ok_laws_FnExactDawgOk (F : Nat) {w : World} {K : KMap} {a1 : Option Addr} {n2 c3 : Nat} {p0_aD : List GState} {r : Bool} (hS : SH w K [] w K []) (hs4 : SliceAt tGState K a1 n2 c3 p0_aD) (hm : M.laws_FnExactDawgOk F p0_aD = some r) :
    Calls Try.prog 9 #[.slice a1 n2 c3] w fun e w' => ∃ (K' : KMap), e = .returned (.bool r) ∧ SH w K [] w' K' [] := by
  rw [M.laws_FnExactDawgOk] at hm
  refine calls_in Try.func9 rfl Try.ntmps9 rfl ?_
  refine wc_seq ?_
  refine wc_region ?_
  refine wl_val wn rfl (rv_assign (v := .bool false) rfl) ?_
  refine wl_nil ?_
  refine qe_seq ?_
  refine wc_seq ?_
  refine wc_region ?_
  refine wl_val wn rfl (rv_assign (v := .int .i64 1048576) rfl) ?_
  refine wl_nil ?_
  refine qe_seq ?_
  refine wc_seq ?_
  refine wc_region ?_
  refine wl_val wn rfl (rv_move rfl) ?_
  refine wl_val wn rfl (rv_move rfl) ?_
  obtain ⟨r5, hx6, h7⟩ := Option.bind_eq_some_iff.1 hm
  refine wl_call wn rfl (rt_call (vs := [.slice a1 n2 c3, .int .i64 1048576]) co40 rfl) ((ok_laws_szStateS F) hS.enter0 hs4 (by decide : rng64 1048576) hx6) ?_
  rintro e12 w9 ⟨K8, rfl, hS10, hr11⟩
  refine ⟨_, rfl, ?_⟩
  have hS13 : SH _ _ _ _ _ [] := SH.call0 hS hS10
  refine wl_val wn rfl (rv_assign rfl) ?_
  refine wl_nil ?_
  refine qe_seq ?_
  refine wc_seq ?_
  refine wc_seq ?_
  refine wc_region ?_
  refine wl_val wn rfl (rv_move rfl) ?_
  refine wl_val wn rfl (rv_lss rfl rfl) ?_
  refine wl_nil ?_
  refine qe_seq ?_
  refine wc_cond rfl (fun hb14 => ?_) (fun hb14 => ?_)
  · have h15 := cond_t hb14 h7
    refine wc_seq ?_
    refine wc_region ?_
    refine wl_val wn rfl (rv_assign (v := .bool true) rfl) ?_
    refine wl_nil ?_
    refine qe_seq ?_
    refine wc_ret ?_
    refine qe_then_ret ?_
    obtain rfl := Option.some.inj h15
    exact qe_ret (vs := [_]) Try.results9 ⟨rfl, trivial⟩ ⟨K8, rfl, hS13⟩
  · have h15 := cond_f hb14 h7
    refine wc_skip ?_
    refine qe_seq ?_
    refine wc_seq ?_
    refine wc_region ?_
    refine wl_val wn rfl (rv_move rfl) ?_
    obtain ⟨r16, hx17, h18⟩ := Option.bind_eq_some_iff.1 h15
    refine wl_call wn rfl (rt_call (vs := [.slice a1 n2 c3]) co42 rfl) ((ok_laws_toStateS F) hS13.enter0 (SliceAt.mono hS10.le hs4) hx17) ?_
    rintro e26 w20 ⟨a22, n23, c24, K19, rfl, hS21, hs25⟩
    refine ⟨_, rfl, ?_⟩
    have hS27 : SH _ _ _ _ _ [_] := SH.call0 hS13 hS21
    obtain ⟨r28, hx29, h30⟩ := Option.bind_eq_some_iff.1 h18
    refine wl_call wn rfl (rt_call (vs := [.slice a22 n23 c24]) co41 rfl) ((ok_spec_DawgOk F) hS27.enter0 hs25 hx29) ?_
    rintro e34 w32 ⟨K31, rfl, hS33⟩
    refine ⟨_, rfl, ?_⟩
    have hS35 : SH _ _ _ _ _ [_] := SH.call0 hS27 hS33
    refine wl_val wn rfl (rv_assign rfl) ?_
    refine wl_nil ?_
    refine qe_seq ?_
    refine wc_seq ?_
    refine wc_region ?_
    refine wl_val wn rfl (rv_move rfl) ?_
    obtain ⟨r36, hx37, h38⟩ := Option.bind_eq_some_iff.1 h30
    refine wl_call wn rfl (rt_call (vs := [.slice a1 n2 c3]) co42 rfl) ((ok_laws_toStateS F) hS35.enter0 (SliceAt.mono ((hS10.le.trans hS21.le).trans hS33.le) hs4) hx37) ?_
    rintro e46 w40 ⟨a42, n43, c44, K39, rfl, hS41, hs45⟩
    refine ⟨_, rfl, ?_⟩
    have hS47 : SH _ _ _ _ _ [_, _] := SH.call0 hS35 hS41
    refine wl_val wn rfl (rv_assign rfl) ?_
    refine wl_nil ?_
    refine qe_seq ?_
    refine wc_seq ?_
    refine wc_region ?_
    refine wl_val wn rfl (rv_move rfl) ?_
    obtain ⟨r48, hx49, h50⟩ := Option.bind_eq_some_iff.1 h38
    refine wl_call wn rfl (rt_call (vs := [.slice a42 n43 c44]) co34 rfl) ((ok_impl_DawgOk F) hS47.enter0 hs45 hx49) ?_
    rintro e54 w52 ⟨K51, rfl, hS53⟩
    refine ⟨_, rfl, ?_⟩
    have hS55 : SH _ _ _ _ _ [_, _] := SH.call0 hS47 hS53
    refine wl_val wn rfl (rv_assign rfl) ?_
    refine wl_nil ?_
    refine qe_seq ?_
    refine wc_seq ?_
    refine wc_seq ?_
    refine wc_region ?_
    refine wl_val wn rfl (rv_move rfl) ?_
    refine wl_val wn rfl (rv_move rfl) ?_
    refine wl_val wn rfl (rv_boolne Try.underlying4 rfl rfl) ?_
    refine wl_nil ?_
    refine qe_seq ?_
    refine wc_cond rfl (fun hb56 => ?_) (fun hb56 => ?_)
    · have h57 := cond_t hb56 h50
      refine wc_seq ?_
      refine wc_region ?_
      refine wl_val wn rfl (rv_assign (v := .bool false) rfl) ?_
      refine wl_nil ?_
      refine qe_seq ?_
      refine wc_ret ?_
      refine qe_then_ret ?_
      obtain rfl := Option.some.inj h57
      have hS58 : SH _ _ _ _ _ [] := SH.sublist hS55 (.cons _ (.cons _ .slnil))
      exact qe_ret (vs := [_]) Try.results9 ⟨rfl, trivial⟩ ⟨K51, rfl, hS58⟩
    · have h57 := cond_f hb56 h50
      refine wc_skip ?_
      refine qe_seq ?_
      refine wc_seq ?_
      refine wc_seq ?_
      refine wc_region ?_
      refine wl_val wn rfl (rv_move rfl) ?_
      refine wl_val wn rfl (rv_move rfl) ?_
      obtain ⟨r59, hx60, h61⟩ := Option.bind_eq_some_iff.1 h57
      refine wl_call wn rfl (rt_call (vs := [.slice a1 n2 c3]) co42 rfl) ((ok_laws_toStateS F) hS55.enter0 (SliceAt.mono ((((hS10.le.trans hS21.le).trans hS33.le).trans hS41.le).trans hS53.le) hs4) hx60) ?_
      rintro e69 w63 ⟨a65, n66, c67, K62, rfl, hS64, hs68⟩
      refine ⟨_, rfl, ?_⟩
      have hS70 : SH _ _ _ _ _ [_, _, _] := SH.call0 hS55 hS64
      obtain ⟨r71, hx72, h73⟩ := Option.bind_eq_some_iff.1 h61
      refine wl_call wn rfl (rt_call (vs := [.slice a42 n43 c44, .slice a65 n66 c67]) co24 rfl) ((ok_laws_eqStateS F) hS70.enter0 (SliceAt.mono (hS53.le.trans hS64.le) hs45) hs68 hx72) ?_
      rintro e77 w75 ⟨K74, rfl, hS76⟩
      refine ⟨_, rfl, ?_⟩
      have hS78 : SH _ _ _ _ _ [_, _, _] := SH.call0 hS70 hS76
      refine wl_val wn rfl (rv_not rfl) ?_
      refine wl_nil ?_
      refine qe_seq ?_
      refine wc_cond rfl (fun hb79 => ?_) (fun hb79 => ?_)
      · have h80 := cond_t hb79 h73
        refine wc_seq ?_
        refine wc_region ?_
        refine wl_val wn rfl (rv_assign (v := .bool false) rfl) ?_
        refine wl_nil ?_
        refine qe_seq ?_
        refine wc_ret ?_
        refine qe_then_ret ?_
        obtain rfl := Option.some.inj h80
        have hS81 : SH _ _ _ _ _ [] := SH.sublist hS78 (.cons _ (.cons _ (.cons _ .slnil)))
        exact qe_ret (vs := [_]) Try.results9 ⟨rfl, trivial⟩ ⟨K74, rfl, hS81⟩
      · have h80 := cond_f hb79 h73
        refine wc_skip ?_
        refine qe_seq ?_
        refine wc_seq ?_
        refine wc_region ?_
        refine wl_val wn rfl (rv_assign (v := .bool true) rfl) ?_
        refine wl_nil ?_
        refine qe_seq ?_
        refine wc_ret ?_
        obtain rfl := Option.some.inj h80
        have hS82 : SH _ _ _ _ _ [] := SH.sublist hS78 (.cons _ (.cons _ (.cons _ .slnil)))
        exact qe_ret (vs := [_]) Try.results9 ⟨rfl, trivial⟩ ⟨K74, rfl, hS82⟩

theorem ok_impl_DawgAt (F : Nat) {w : World} {K : KMap} {a1 : Option Addr} {n2 c3 : Nat} {p0_d : List GState} {p1_rank : Int} {r : Str} (hS : SH w K [] w K []) (hs4 : SliceAt tGState K a1 n2 c3 p0_d) (hr5 : rng64 p1_rank) (hm : M.impl_DawgAt F p0_d p1_rank = some r) :
    Calls Try.prog 38 #[.slice a1 n2 c3, .int .i64 p1_rank] w fun e w' => ∃ (K' : KMap), e = .returned (sv r) ∧ SH w K [] w' K' [] ∧ r.length ≤ maxLen := by
  rw [M.impl_DawgAt] at hm
  refine calls_in Try.func38 rfl Try.ntmps38 rfl ?_
  refine wc_seq ?_
  refine wc_region ?_
  refine wl_val wn rfl (rv_assign (v := sv []) rfl) ?_
  refine wl_nil ?_
  refine qe_seq ?_
  refine wc_seq ?_
  refine wc_region ?_
  refine wl_val wn rfl (rv_move rfl) ?_
  obtain ⟨r6, hx7, h8⟩ := Option.bind_eq_some_iff.1 hm
  refine wl_call wn rfl (rt_call (vs := [.slice a1 n2 c3]) co63 rfl) ((ok_impl_wordsIn F) hS.enter0 hs4 hx7) ?_
  rintro e16 w10 ⟨a12, n13, c14, K9, rfl, hS11, hs15⟩
  refine ⟨_, rfl, ?_⟩
  have hS17 : SH _ _ _ _ _ [_] := SH.call0 hS hS11
  refine wl_val wn rfl (rv_move rfl) ?_
  refine wl_val wn rfl (rv_extract rfl rfl) ?_
  refine wl_val wn rfl (rv_extract rfl rfl) ?_
  refine wl_val wn rfl (rv_assign rfl) ?_
  refine wl_val wn rfl (rv_assign rfl) ?_
  refine wl_nil ?_
  refine qe_seq ?_
  refine wc_seq ?_
  refine wc_seq ?_
  refine wc_region ?_
  refine wl_val wn rfl (rv_move rfl) ?_
  refine wl_val wn rfl (rv_move rfl) ?_
  refine wl_val wn rfl (rv_len (t := tStr) Try.underlying26 rfl hs15) ?_
  refine wl_val wn rfl (rv_sub rfl rfl) ?_
  obtain ⟨r18, hx19, h20⟩ := Option.bind_eq_some_iff.1 h8
  refine wl_call wn rfl (rt_call (vs := [.int .i64 p1_rank, .int .i64 0, .int .i64 (w64 ((r6.1.length : Int) - (1 : Int)))]) co67 rfl) ((ok_impl_within F) hS17.enter0 hr5 (by decide : rng64 0) (w64_rng _) hx19) ?_
  rintro e24 w22 ⟨K21, rfl, hS23⟩
  refine ⟨_, rfl, ?_⟩
  have hS25 : SH _ _ _ _ _ [_] := SH.call0 hS17 hS23
  refine wl_val wn rfl (rv_not rfl) ?_
  refine wl_nil ?_
  refine qe_seq ?_
  refine wc_cond rfl (fun hb26 => ?_) (fun hb26 => ?_)
  · have h27 := cond_t hb26 h20
    refine wc_seq ?_
    refine wc_region ?_
    refine wl_val wn rfl (rv_assign (v := sv []) rfl) ?_
    refine wl_nil ?_
    refine qe_seq ?_
    refine wc_ret ?_
    refine qe_then_ret ?_
    obtain rfl := Option.some.inj h27
    have hS28 : SH _ _ _ _ _ [] := SH.sublist hS25 (.cons _ .slnil)
    exact qe_ret (vs := [_]) Try.results38 ⟨rfl, trivial⟩ ⟨K21, rfl, hS28, (by decide : ([] : Str).length ≤ maxLen)⟩
  · have h27 := cond_f hb26 h20
    refine wc_skip ?_
    refine qe_seq ?_
    refine wc_seq ?_
    refine wc_region ?_
    refine wl_val wn rfl (rv_move rfl) ?_
    refine wl_val wn rfl (rv_move rfl) ?_
    obtain ⟨x29, hx30, h31⟩ := Option.bind_eq_some_iff.1 h27
    refine wl_indexAddr (t := tStr) wn rfl Try.underlying26 tf9 rfl rfl (SliceAt.mono hS23.le hs15) hx30 ?_
    intro b32 o33 u34 hu35 ha36
    obtain ⟨rfl, hl37⟩ := hu35
    have ha38 : AtK _ b32 o33 [sv x29] := ha36
    refine wl_val wn rfl (rv_load1 tf9 rfl hS25 (ha38 0 _ rfl)) ?_
    refine wl_val wn rfl (rv_assign rfl) ?_
    refine wl_nil ?_
    refine qe_seq ?_
    refine wc_ret ?_
    obtain rfl := Option.some.inj h31
    have hS39 : SH _ _ _ _ _ [] := SH.sublist hS25 (.cons _ .slnil)
    exact qe_ret (vs := [_]) Try.results38 ⟨rfl, trivial⟩ ⟨K21, rfl, hS39, hl37⟩

theorem ok_spec_DawgAt (F : Nat) {w : World} {K : KMap} {a1 : Option Addr} {n2 c3 : Nat} {p0_d : List GState} {p1_rank : Int} {r : Str} (hS : SH w K [] w K []) (hs4 : SliceAt tGState K a1 n2 c3 p0_d) (hr5 : rng64 p1_rank) (hm : M.spec_DawgAt F p0_d p1_rank = some r) :
    Calls Try.prog 39 #[.slice a1 n2 c3, .int .i64 p1_rank] w fun e w' => ∃ (K' : KMap), e = .returned (sv r) ∧ SH w K [] w' K' [] ∧ r.length ≤ maxLen := by
  rw [M.spec_DawgAt] at hm
  refine calls_in Try.func39 rfl Try.ntmps39 rfl ?_
  refine wc_seq ?_
  refine wc_region ?_
  refine wl_val wn rfl (rv_assign (v := sv []) rfl) ?_
  refine wl_nil ?_
  refine qe_seq ?_
  refine wc_seq ?_
  refine wc_seq ?_
  obtain ⟨o6, h7, h8⟩ := Option.bind_eq_some_iff.1 hm
  refine wc_cutg (fun E' w' => ∃ (K9 : KMap), E' = [(0, .slice a1 n2 c3), (1, .int .i64 p1_rank), (20, .bool o6)] ∧ SH w K [] w' K9 [] ∧ KLe K K9) ?_ ?_
  · refine wc_region ?_
    refine wl_val wn rfl (rv_move rfl) ?_
    obtain ⟨r13, hx14, h15⟩ := Option.bind_eq_some_iff.1 h7
    refine wl_call wn rfl (rt_call (vs := [.slice a1 n2 c3]) co68 rfl) ((ok_spec_l4Ok F) hS.enter0 hs4 hx14) ?_
    rintro e19 w17 ⟨K16, rfl, hS18⟩
    refine ⟨_, rfl, ?_⟩
    have hS20 : SH _ _ _ _ _ [] := SH.call0 hS hS18
    refine wl_val wn rfl (rv_not rfl) ?_
    refine wl_val wn rfl (rv_move rfl) ?_
    rcases bool_tf ((!r13)) with hb21 | hb21
    · have h22 := cond_t hb21 h15
      refine wl_un (ug rfl rfl hb21) rfl ?_
      refine wl_un (ug rfl rfl hb21) rfl ?_
      refine wl_un (ug rfl rfl hb21) rfl ?_
      refine wl_un (ug rfl rfl hb21) rfl ?_
      refine wl_un (ug rfl rfl hb21) rfl ?_
      refine wl_un (ug rfl rfl hb21) rfl ?_
      refine wl_un (ug rfl rfl hb21) rfl ?_
      refine wl_un (ug rfl rfl hb21) rfl ?_
      refine wl_un (ug rfl rfl hb21) rfl ?_
      refine wl_un (ug rfl rfl hb21) rfl ?_
      refine wl_un (ug rfl rfl hb21) rfl ?_
      refine wl_val wn rfl (rv_pick_t (v := .bool true) rfl hb21 rfl) ?_
      refine wl_nil ?_
      obtain rfl := Option.some.inj h22
      exact qe_mid' ⟨K16, rfl, hS20, hS18.le⟩ ⟨rfl, rfl, rfl, trivial⟩
    · have h22 := cond_f hb21 h15
      refine wl_val (wg rfl rfl hb21) rfl (rv_move rfl) ?_
      refine wl_val (wg rfl rfl hb21) rfl (rv_move rfl) ?_
      refine wl_val (wg rfl rfl hb21) rfl (rv_move rfl) ?_
      refine wl_val (wg rfl rfl hb21) rfl (rv_len (t := tGState) Try.underlying28 rfl (SliceAt.mono hS18.le hs4)) ?_
      refine wl_val (wg rfl rfl hb21) rfl (rv_sub rfl rfl) ?_
      obtain ⟨x23, hx24, h25⟩ := Option.bind_eq_some_iff.1 h22
      refine wl_indexAddr (t := tGState) (wg rfl rfl hb21) rfl Try.underlying28 tf33 rfl rfl (SliceAt.mono hS18.le hs4) hx24 ?_
      intro b26 o27 u28 hu29 ha30
      obtain ⟨a32, n33, c34, rfl, hr31, hs35⟩ := hu29
      have ha36 : AtK _ b26 o27 [.bool x23.Final, .int .i64 x23.Many, .slice a32 n33 c34] := ha30
      refine wl_val (wg rfl rfl hb21) rfl (rv_fieldAddr ff33_1 rfl) ?_
      refine wl_val (wg rfl rfl hb21) rfl (rv_load1 tf3 rfl hS20 (ha36 1 _ rfl)) ?_
      refine wl_val (wg rfl rfl hb21) rfl (rv_sub rfl rfl) ?_
      obtain ⟨r37, hx38, h39⟩ := Option.bind_eq_some_iff.1 h25
      refine wl_call (wg rfl rfl hb21) rfl (rt_call (vs := [.int .i64 p1_rank, .int .i64 0, .int .i64 (w64 (x23.Many - (1 : Int)))]) co69 rfl) ((ok_spec_l1In F) hS20.enter0 hr5 (by decide : rng64 0) (w64_rng _) hx38) ?_
      rintro e43 w41 ⟨K40, rfl, hS42⟩
      refine ⟨_, rfl, ?_⟩
      have hS44 : SH _ _ _ _ _ [] := SH.call0 hS20 hS42
      refine wl_val (wg rfl rfl hb21) rfl (rv_not rfl) ?_
      refine wl_val wn rfl (rv_pick_f rfl hb21 rfl) ?_
      refine wl_nil ?_
      obtain rfl := Option.some.inj h39
      exact qe_mid' ⟨K40, rfl, hS44, (hS18.le.trans hS42.le)⟩ ⟨rfl, rfl, rfl, trivial⟩
  · rintro _ w11 ⟨K9, rfl, hS12, hl10⟩
    refine qe_seq ?_
    refine wc_cond rfl (fun hb45 => ?_) (fun hb45 => ?_)
    · have h46 := cond_t hb45 h8
      refine wc_seq ?_
      refine wc_region ?_
      refine wl_val wn rfl (rv_assign (v := sv []) rfl) ?_
      refine wl_nil ?_
      refine qe_seq ?_
      refine wc_ret ?_
      refine qe_then_ret ?_
      obtain rfl := Option.some.inj h46
      exact qe_ret (vs := [_]) Try.results39 ⟨rfl, trivial⟩ ⟨K9, rfl, hS12, (by decide : ([] : Str).length ≤ maxLen)⟩
    · have h46 := cond_f hb45 h8
      refine wc_skip ?_
      refine qe_seq ?_
      refine wc_seq ?_
      refine wc_region ?_
      refine wl_val wn rfl (rv_move rfl) ?_
      refine wl_val wn rfl (rv_move rfl) ?_
      refine wl_val wn rfl (rv_len (t := tGState) Try.underlying28 rfl (SliceAt.mono hl10 hs4)) ?_
      refine wl_val wn rfl (rv_sub rfl rfl) ?_
      obtain ⟨r47, hx48, h49⟩ := Option.bind_eq_some_iff.1 h46
      refine wl_call wn rfl (rt_call (vs := [.slice a1 n2 c3, .int .i64 (w64 ((p0_d.length : Int) - (1 : Int))), sv []]) co70 rfl) ((ok_spec_l4All F) hS12.enter0 (SliceAt.mono hl10 hs4) (w64_rng _) (by decide : ([] : Str).length ≤ maxLen) hx48) ?_
      rintro e57 w51 ⟨a53, n54, c55, K50, rfl, hS52, hs56⟩
      refine ⟨_, rfl, ?_⟩
      have hS58 : SH _ _ _ _ _ [_] := SH.call0 hS12 hS52
      refine wl_val wn rfl (rv_move rfl) ?_
      obtain ⟨x59, hx60, h61⟩ := Option.bind_eq_some_iff.1 h49
      refine wl_indexAddr (t := tStr) wn rfl Try.underlying26 tf9 rfl rfl hs56 hx60 ?_
      intro b62 o63 u64 hu65 ha66
      obtain ⟨rfl, hl67⟩ := hu65
      have ha68 : AtK _ b62 o63 [sv x59] := ha66
      refine wl_val wn rfl (rv_load1 tf9 rfl hS58 (ha68 0 _ rfl)) ?_
      refine wl_val wn rfl (rv_assign rfl) ?_
      refine wl_nil ?_
      refine qe_seq ?_
      refine wc_ret ?_
      obtain rfl := Option.some.inj h61
      have hS69 : SH _ _ _ _ _ [] := SH.sublist hS58 (.cons _ .slnil)
      exact qe_ret (vs := [_]) Try.results39 ⟨rfl, trivial⟩ ⟨K50, rfl, hS69, hl67⟩

theorem ok_laws_FnExactDawgAt (F : Nat) {w : World} {K : KMap} {a1 : Option Addr} {n2 c3 : Nat} {p0_aD : List GState} {p1_aRank : Int} {r : Bool} (hS : SH w K [] w K []) (hs4 : SliceAt tGState K a1 n2 c3 p0_aD) (hr5 : rng64 p1_aRank) (hm : M.laws_FnExactDawgAt F p0_aD p1_aRank = some r) :
    Calls Try.prog 10 #[.slice a1 n2 c3, .int .i64 p1_aRank] w fun e w' => ∃ (K' : KMap), e = .returned (.bool r) ∧ SH w K [] w' K' [] := by
  rw [M.laws_FnExactDawgAt] at hm
  refine calls_in Try.func10 rfl Try.ntmps10 rfl ?_
  refine wc_seq ?_
  refine wc_region ?_
  refine wl_val wn rfl (rv_assign (v := .bool false) rfl) ?_
  refine wl_nil ?_
  refine qe_seq ?_
  refine wc_seq ?_
  refine wc_region ?_
  refine wl_val wn rfl (rv_assign (v := .int .i64 1048576) rfl) ?_
  refine wl_nil ?_
  refine qe_seq ?_
  refine wc_seq ?_
  refine wc_region ?_
  refine wl_val wn rfl (rv_move rfl) ?_
  refine wl_val wn rfl (rv_move rfl) ?_
  obtain ⟨r6, hx7, h8⟩ := Option.bind_eq_some_iff.1 hm
  refine wl_call wn rfl (rt_call (vs := [.slice a1 n2 c3, .int .i64 1048576]) co40 rfl) ((ok_laws_szStateS F) hS.enter0 hs4 (by decide : rng64 1048576) hx7) ?_
  rintro e13 w10 ⟨K9, rfl, hS11, hr12⟩
  refine ⟨_, rfl, ?_⟩
  have hS14 : SH _ _ _ _ _ [] := SH.call0 hS hS11
  refine wl_val wn rfl (rv_assign rfl) ?_
  refine wl_nil ?_
  refine qe_seq ?_
  refine wc_seq ?_
  refine wc_seq ?_
  refine wc_region ?_
  refine wl_val wn rfl (rv_move rfl) ?_
  refine wl_val wn rfl (rv_lss rfl rfl) ?_
  refine wl_nil ?_
  refine qe_seq ?_
  refine wc_cond rfl (fun hb15 => ?_) (fun hb15 => ?_)
  · have h16 := cond_t hb15 h8
    refine wc_seq ?_
    refine wc_region ?_
    refine wl_val wn rfl (rv_assign (v := .bool true) rfl) ?_
    refine wl_nil ?_
    refine qe_seq ?_
    refine wc_ret ?_
    refine qe_then_ret ?_
    obtain rfl := Option.some.inj h16
    exact qe_ret (vs := [_]) Try.results10 ⟨rfl, trivial⟩ ⟨K9, rfl, hS14⟩
  · have h16 := cond_f hb15 h8
    refine wc_skip ?_
    refine qe_seq ?_
    refine wc_seq ?_
    refine wc_region ?_
    refine wl_val wn rfl (rv_move rfl) ?_
    obtain ⟨r17, hx18, h19⟩ := Option.bind_eq_some_iff.1 h16
    refine wl_call wn rfl (rt_call (vs := [.slice a1 n2 c3]) co42 rfl) ((ok_laws_toStateS F) hS14.enter0 (SliceAt.mono hS11.le hs4) hx18) ?_
    rintro e27 w21 ⟨a23, n24, c25, K20, rfl, hS22, hs26⟩
    refine ⟨_, rfl, ?_⟩
    have hS28 : SH _ _ _ _ _ [_] := SH.call0 hS14 hS22
    refine wl_val wn rfl (rv_move rfl) ?_
    obtain ⟨r29, hx30, h31⟩ := Option.bind_eq_some_iff.1 h19
    refine wl_call wn rfl (rt_call (vs := [.slice a23 n24 c25, .int .i64 p1_aRank]) co39 rfl) ((ok_spec_DawgAt F) hS28.enter0 hs26 hr5 hx30) ?_
    rintro e36 w33 ⟨K32, rfl, hS34, hl35⟩
    refine ⟨_, rfl, ?_⟩
    have hS37 : SH _ _ _ _ _ [_] := SH.call0 hS28 hS34
    refine wl_val wn rfl (rv_assign rfl) ?_
    refine wl_nil ?_
    refine qe_seq ?_
    refine wc_seq ?_
    refine wc_region ?_
    refine wl_val wn rfl (rv_move rfl) ?_
    obtain ⟨r38, hx39, h40⟩ := Option.bind_eq_some_iff.1 h31
    refine wl_call wn rfl (rt_call (vs := [.slice a1 n2 c3]) co42 rfl) ((ok_laws_toStateS F) hS37.enter0 (SliceAt.mono ((hS11.le.trans hS22.le).trans hS34.le) hs4) hx39) ?_
    rintro e48 w42 ⟨a44, n45, c46, K41, rfl, hS43, hs47⟩
    refine ⟨_, rfl, ?_⟩
    have hS49 : SH _ _ _ _ _ [_, _] := SH.call0 hS37 hS43
    refine wl_val wn rfl (rv_assign rfl) ?_
    refine wl_nil ?_
    refine qe_seq ?_
    refine wc_seq ?_
    refine wc_region ?_
    refine wl_val wn rfl (rv_move rfl) ?_
    refine wl_val wn rfl (rv_move rfl) ?_
    obtain ⟨r50, hx51, h52⟩ := Option.bind_eq_some_iff.1 h40
    refine wl_call wn rfl (rt_call (vs := [.slice a44 n45 c46, .int .i64 p1_aRank]) co38 rfl) ((ok_impl_DawgAt F) hS49.enter0 hs47 hr5 hx51) ?_
    rintro e57 w54 ⟨K53, rfl, hS55, hl56⟩
    refine ⟨_, rfl, ?_⟩
    have hS58 : SH _ _ _ _ _ [_, _] := SH.call0 hS49 hS55
    refine wl_val wn rfl (rv_assign rfl) ?_
    refine wl_nil ?_
    refine qe_seq ?_
    refine wc_seq ?_
    refine wc_seq ?_
    refine wc_region ?_
    refine wl_val wn rfl (rv_move rfl) ?_
    refine wl_val wn rfl (rv_move rfl) ?_
    refine wl_val wn rfl (rv_sneq rfl rfl) ?_
    refine wl_nil ?_
    refine qe_seq ?_
    refine wc_cond rfl (fun hb59 => ?_) (fun hb59 => ?_)
    · have h60 := cond_t hb59 h52
      refine wc_seq ?_
      refine wc_region ?_
      refine wl_val wn rfl (rv_assign (v := .bool false) rfl) ?_
      refine wl_nil ?_
      refine qe_seq ?_
      refine wc_ret ?_
      refine qe_then_ret ?_
      obtain rfl := Option.some.inj h60
      have hS61 : SH _ _ _ _ _ [] := SH.sublist hS58 (.cons _ (.cons _ .slnil))
      exact qe_ret (vs := [_]) Try.results10 ⟨rfl, trivial⟩ ⟨K53, rfl, hS61⟩
    · have h60 := cond_f hb59 h52
      refine wc_skip ?_
      refine qe_seq ?_
      refine wc_seq ?_
      refine wc_seq ?_
      refine wc_region ?_
      refine wl_val wn rfl (rv_move rfl) ?_
      refine wl_val wn rfl (rv_move rfl) ?_
      obtain ⟨r62, hx63, h64⟩ := Option.bind_eq_some_iff.1 h60
      refine wl_call wn rfl (rt_call (vs := [.slice a1 n2 c3]) co42 rfl) ((ok_laws_toStateS F) hS58.enter0 (SliceAt.mono ((((hS11.le.trans hS22.le).trans hS34.le).trans hS43.le).trans hS55.le) hs4) hx63) ?_
      rintro e72 w66 ⟨a68, n69, c70, K65, rfl, hS67, hs71⟩
      refine ⟨_, rfl, ?_⟩
      have hS73 : SH _ _ _ _ _ [_, _, _] := SH.call0 hS58 hS67
      obtain ⟨r74, hx75, h76⟩ := Option.bind_eq_some_iff.1 h64
      refine wl_call wn rfl (rt_call (vs := [.slice a44 n45 c46, .slice a68 n69 c70]) co24 rfl) ((ok_laws_eqStateS F) hS73.enter0 (SliceAt.mono (hS55.le.trans hS67.le) hs47) hs71 hx75) ?_
      rintro e80 w78 ⟨K77, rfl, hS79⟩
      refine ⟨_, rfl, ?_⟩
      have hS81 : SH _ _ _ _ _ [_, _, _] := SH.call0 hS73 hS79
      refine wl_val wn rfl (rv_not rfl) ?_
      refine wl_nil ?_
      refine qe_seq ?_
      refine wc_cond rfl (fun hb82 => ?_) (fun hb82 => ?_)
      · have h83 := cond_t hb82 h76
        refine wc_seq ?_
        refine wc_region ?_
        refine wl_val wn rfl (rv_assign (v := .bool false) rfl) ?_
        refine wl_nil ?_
        refine qe_seq ?_
        refine wc_ret ?_
        refine qe_then_ret ?_
        obtain rfl := Option.some.inj h83
        have hS84 : SH _ _ _ _ _ [] := SH.sublist hS81 (.cons _ (.cons _ (.cons _ .slnil)))
        exact qe_ret (vs := [_]) Try.results10 ⟨rfl, trivial⟩ ⟨K77, rfl, hS84⟩
      · have h83 := cond_f hb82 h76
        refine wc_skip ?_
        refine qe_seq ?_
        refine wc_seq ?_
        refine wc_region ?_
        refine wl_val wn rfl (rv_assign (v := .bool true) rfl) ?_
        refine wl_nil ?_
        refine qe_seq ?_
        refine wc_ret ?_
        obtain rfl := Option.some.inj h83
        have hS85 : SH _ _ _ _ _ [] := SH.sublist hS81 (.cons _ (.cons _ (.cons _ .slnil)))
        exact qe_ret (vs := [_]) Try.results10 ⟨rfl, trivial⟩ ⟨K77, rfl, hS85⟩

theorem ok_spec_l4Go (F : Nat) {w : World} {K : KMap} {a1 : Option Addr} {n2 c3 : Nat} {p0_d : List GState} {p1_s : Str} {r : Int × Int} (hS : SH w K [] w K []) (hs4 : SliceAt tGState K a1 n2 c3 p0_d) (hl5 : p1_s.length ≤ maxLen) (hm : M.spec_l4Go F p0_d p1_s = some r) :
    Calls Try.prog 73 #[.slice a1 n2 c3, sv p1_s] w fun e w' => ∃ (K' : KMap), e = .returned (.tuple #[.int .i64 r.1, .int .i64 r.2]) ∧ SH w K [] w' K' [] ∧ rng64 r.1 ∧ rng64 r.2 := by
  rw [M.spec_l4Go] at hm
  refine calls_in Try.func73 rfl Try.ntmps73 rfl ?_
  refine wc_seq ?_
  refine wc_region ?_
  refine wl_val wn rfl (rv_assign (v := .int .i64 0) rfl) ?_
  refine wl_val wn rfl (rv_assign (v := .int .i64 0) rfl) ?_
  refine wl_nil ?_
  refine qe_seq ?_
  refine wc_seq ?_
  refine wc_region ?_
  refine wl_val wn rfl (rv_move rfl) ?_
  refine wl_val wn rfl (rv_len (t := tGState) Try.underlying28 rfl hs4) ?_
  refine wl_val wn rfl (rv_sub rfl rfl) ?_
  refine wl_val wn rfl (rv_assign rfl) ?_
  refine wl_nil ?_
  refine qe_seq ?_
  refine wc_seq ?_
  refine wc_region ?_
  refine wl_val wn rfl (rv_assign (v := .int .i64 0) rfl) ?_
  refine wl_nil ?_
  refine qe_seq ?_
  refine wc_seq ?_
  refine wc_seq ?_
  refine wc_region ?_
  refine wl_val wn rfl (rv_assign (v := .int .i64 0) rfl) ?_
  refine wl_nil ?_
  refine qe_seq ?_
  obtain ⟨o6, h7, h8⟩ := Option.bind_eq_some_iff.1 hm
  refine wc_cutg (fun E' w' => ∃ (s9 : Int × Int) (K10 : KMap), o6 = .inl s9 ∧ E' = [(6, .int .i64 s9.1), (7, .int .i64 s9.2)] ∧ SH w K [] w' K10 [] ∧ KLe K K10 ∧ rng64 s9.1 ∧ rng64 s9.2) ?_ ?_
  · refine wc_block ?_
    obtain ⟨r17, h18, h19⟩ := Option.bind_eq_some_iff.1 h7
    refine wc_while' (fun (s16 : Int × Int × Int) E' w' => ∃ (K20 : KMap), E' = [(0, .slice a1 n2 c3), (1, sv p1_s), (6, .int .i64 s16.1), (7, .int .i64 s16.2.1), (8, .int .i64 s16.2.2)] ∧ SH w K [] w' K20 [] ∧ KLe K K20 ∧ rng64 s16.1 ∧ rng64 s16.2.1 ∧ rng64 s16.2.2) h18 ⟨K, rfl, hS, (KLe.refl _), (w64_rng _), (by decide : rng64 0), (by decide : rng64 0)⟩ ⟨rfl, rfl, rfl, rfl, rfl, trivial⟩ ?_
    rintro s16 _ w22 r27 h28 hx29 ⟨K20, rfl, hS23, hl21, hr24, hr25, hr26⟩
    refine wc_seq ?_
    refine wc_seq ?_
    refine wc_region ?_
    refine wl_val wn rfl (rv_move rfl) ?_
    refine wl_val wn rfl (rv_move rfl) ?_
    refine wl_val wn rfl (rv_slen Try.underlying9 rfl) ?_
    refine wl_val wn rfl (rv_lss rfl rfl) ?_
    refine wl_nil ?_
    refine qe_seq ?_
    refine wc_cond rfl (fun hb30 => ?_) (fun hb30 => ?_)
    · have h31 := cond_t hb30 h28
      refine wc_skip ?_
      refine qe_seq ?_
      refine wc_seq ?_
      refine wc_block ?_
      refine wc_seq ?_
      refine wc_region ?_
      refine wl_val wn rfl (rv_assign (v := .int .i64 (-1)) rfl) ?_
      refine wl_nil ?_
      refine qe_seq ?_
      refine wc_seq ?_
      refine wc_seq ?_
      refine wc_region ?_
      refine wl_val wn rfl (rv_move rfl) ?_
      refine wl_val wn rfl (rv_move rfl) ?_
      obtain ⟨x32, hx33, h34⟩ := Option.bind_eq_some_iff.1 h31
      refine wl_indexAddr (t := tGState) wn rfl Try.underlying28 tf33 rfl rfl (SliceAt.mono hl21 hs4) hx33 ?_
      intro b35 o36 u37 hu38 ha39
      obtain ⟨a41, n42, c43, rfl, hr40, hs44⟩ := hu38
      have ha45 : AtK _ b35 o36 [.bool x32.Final, .int .i64 x32.Many, .slice a41 n42 c43] := ha39
      refine wl_val wn rfl (rv_fieldAddr ff33_0 rfl) ?_
      refine wl_val wn rfl (rv_load1 tf4 rfl hS23 (ha45 0 _ rfl)) ?_
      refine wl_nil ?_
      refine qe_seq ?_
      obtain ⟨o46, h47, h48⟩ := Option.bind_eq_some_iff.1 h34
      refine wc_cutg (fun E' w' => ∃ (K49 : KMap), E' = [(0, .slice a1 n2 c3), (1, sv p1_s), (6, .int .i64 s16.1), (7, .int .i64 o46), (8, .int .i64 s16.2.2), (9, .int .i64 (-1))] ∧ SH w K [] w' K49 [] ∧ KLe K20 K49 ∧ rng64 o46) ?_ ?_
      · refine wc_cond rfl (fun hb54 => ?_) (fun hb54 => ?_)
        · have h55 := cond_t hb54 h47
          refine wc_region ?_
          refine wl_val wn rfl (rv_move rfl) ?_
          refine wl_val wn rfl (rv_add rfl rfl) ?_
          refine wl_val wn rfl (rv_assign rfl) ?_
          refine wl_nil ?_
          obtain rfl := Option.some.inj h55
          exact qe_mid' ⟨K20, rfl, hS23, (KLe.refl _), (w64_rng _)⟩ ⟨rfl, rfl, rfl, rfl, rfl, rfl, trivial⟩
        · have h55 := cond_f hb54 h47
          refine wc_skip ?_
          obtain rfl := Option.some.inj h55
          exact qe_mid' ⟨K20, rfl, hS23, (KLe.refl _), hr25⟩ ⟨rfl, rfl, rfl, rfl, rfl, rfl, trivial⟩
      · rintro _ w51 ⟨K49, rfl, hS52, hl50, hr53⟩
        refine qe_seq ?_
        refine wc_seq ?_
        refine wc_seq ?_
        refine wc_region ?_
        refine wl_val wn rfl (rv_assign (v := .int .i64 0) rfl) ?_
        refine wl_nil ?_
        refine qe_seq ?_
        obtain ⟨o56, h57, h58⟩ := Option.bind_eq_some_iff.1 h48
        refine wc_cutg (fun E' w' => ∃ (K59 : KMap), E' = [(0, .slice a1 n2 c3), (1, sv p1_s), (7, .int .i64 o56.1), (8, .int .i64 s16.2.2), (9, .int .i64 o56.2)] ∧ SH w K [] w' K59 [] ∧ KLe K49 K59 ∧ rng64 o56.1 ∧ rng64 o56.2) ?_ ?_
        · refine wc_block ?_
          obtain ⟨r66, h67, h68⟩ := Option.bind_eq_some_iff.1 h57
          refine wc_while' (fun (s65 : Int × Int × Int) E' w' => ∃ (K69 : KMap), E' = [(0, .slice a1 n2 c3), (1, sv p1_s), (6, .int .i64 s16.1), (7, .int .i64 s65.1), (8, .int .i64 s16.2.2), (9, .int .i64 s65.2.1), (10, .int .i64 s65.2.2)] ∧ SH w K [] w' K69 [] ∧ KLe K49 K69 ∧ rng64 s65.1 ∧ rng64 s65.2.1 ∧ rng64 s65.2.2) h67 ⟨K49, rfl, hS52, (KLe.refl _), hr53, (by decide : rng64 (-1)), (by decide : rng64 0)⟩ ⟨rfl, rfl, rfl, rfl, rfl, rfl, rfl, trivial⟩ ?_
          rintro s65 _ w71 r76 h77 hx78 ⟨K69, rfl, hS72, hl70, hr73, hr74, hr75⟩
          refine wc_seq ?_
          refine wc_seq ?_
          obtain ⟨o79, h80, h81⟩ := Option.bind_eq_some_iff.1 h77
          refine wc_cutg (fun E' w' => ∃ (K82 : KMap), E' = [(0, .slice a1 n2 c3), (1, sv p1_s), (6, .int .i64 s16.1), (7, .int .i64 s65.1), (8, .int .i64 s16.2.2), (9, .int .i64 s65.2.1), (10, .int .i64 s65.2.2), (39, .bool o79)] ∧ SH w K [] w' K82 [] ∧ KLe K69 K82) ?_ ?_
          · refine wc_region ?_
            refine wl_val wn rfl (rv_move rfl) ?_
            refine wl_val wn rfl (rv_move rfl) ?_
            refine wl_val wn rfl (rv_move rfl) ?_
            obtain ⟨x86, hx87, h88⟩ := Option.bind_eq_some_iff.1 h80
            refine wl_indexAddr (t := tGState) wn rfl Try.underlying28 tf33 rfl rfl (SliceAt.mono ((hl21.trans hl50).trans hl70) hs4) hx87 ?_
            intro b89 o90 u91 hu92 ha93
            obtain ⟨a95, n96, c97, rfl, hr94, hs98⟩ := hu92
            have ha99 : AtK _ b89 o90 [.bool x86.Final, .int .i64 x86.Many, .slice a95 n96 c97] := ha93
            refine wl_val wn rfl (rv_fieldAddr ff33_2 rfl) ?_
            refine wl_val wn rfl (rv_load1 tf31 rfl hS72 (ha99 2 _ rfl)) ?_
            refine wl_val wn rfl (rv_len (t := tGArc) Try.underlying31 rfl hs98) ?_
            refine wl_val wn rfl (rv_lss rfl rfl) ?_
            refine wl_val wn rfl (rv_move rfl) ?_
            rcases bool_tf (decide (s65.2.2 < (x86.Arcs.length : Int))) with hb100 | hb100
            · have h101 := cond_t hb100 h88
              refine wl_val (wg rfl rfl hb100) rfl (rv_move rfl) ?_
              refine wl_val (wg rfl rfl hb100) rfl (rv_lss rfl rfl) ?_
              refine wl_val wn rfl (rv_pick_t rfl hb100 rfl) ?_
              refine wl_nil ?_
              obtain rfl := Option.some.inj h101
              exact qe_mid' ⟨K69, rfl, hS72, (KLe.refl _)⟩ ⟨rfl, rfl, rfl, rfl, rfl, rfl, rfl, rfl, trivial⟩
            · have h101 := cond_f hb100 h88
              refine wl_un (ug rfl rfl hb100) rfl ?_
              refine wl_un (ug rfl rfl hb100) rfl ?_
              refine wl_val wn rfl (rv_pick_f (v := .bool false) rfl hb100 rfl) ?_
              refine wl_nil ?_
              obtain rfl := Option.some.inj h101
              exact qe_mid' ⟨K69, rfl, hS72, (KLe.refl _)⟩ ⟨rfl, rfl, rfl, rfl, rfl, rfl, rfl, rfl, trivial⟩
          · rintro _ w84 ⟨K82, rfl, hS85, hl83⟩
            refine qe_seq ?_
            refine wc_cond rfl (fun hb102 => ?_) (fun hb102 => ?_)
            · have h103 := cond_t hb102 h81
              refine wc_skip ?_
              refine qe_seq ?_
              refine wc_seq ?_
              refine wc_block ?_
              refine wc_seq ?_
              refine wc_region ?_
              refine wl_val wn rfl (rv_move rfl) ?_
              refine wl_val wn rfl (rv_move rfl) ?_
              obtain ⟨x104, hx105, h106⟩ := Option.bind_eq_some_iff.1 h103
              refine wl_indexAddr (t := tGState) wn rfl Try.underlying28 tf33 rfl rfl (SliceAt.mono (((hl21.trans hl50).trans hl70).trans hl83) hs4) hx105 ?_
              intro b107 o108 u109 hu110 ha111
              obtain ⟨a113, n114, c115, rfl, hr112, hs116⟩ := hu110
              have ha117 : AtK _ b107 o108 [.bool x104.Final, .int .i64 x104.Many, .slice a113 n114 c115] := ha111
              refine wl_val wn rfl (rv_fieldAddr ff33_2 rfl) ?_
              refine wl_val wn rfl (rv_load1 tf31 rfl hS85 (ha117 2 _ rfl)) ?_
              refine wl_val wn rfl (rv_move rfl) ?_
              obtain ⟨x118, hx119, h120⟩ := Option.bind_eq_some_iff.1 h106
              refine wl_indexAddr (t := tGArc) wn rfl Try.underlying31 tf35 rfl rfl hs116 hx119 ?_
              intro b121 o122 u123 hu124 ha125
              obtain ⟨rfl, hr126⟩ := hu124
              have ha127 : AtK _ b121 o122 [iv8 x118.Byte, .int .i64 x118.To] := ha125
              refine wl_val wn rfl (rv_loadS (cs := [iv8 x118.Byte, .int .i64 x118.To]) tf35 rfl hS85 ha127 rfl) ?_
              refine wl_alloc wn rfl tf35 hS85 ?_
              intro g128 w129 hS130
              have hS131 : SH _ _ _ _ _ [obj g128 [iv8 0, .int .i64 0] 35] := hS130
              refine wl_store (cs' := [iv8 x118.Byte, .int .i64 x118.To]) (v := .agg #[iv8 x118.Byte, .int .i64 x118.To]) wn tf35 rfl rfl rfl (by simp [Value.cells, Value.oneCell', iv8]) hS131 rfl rfl ?_
              intro w132 hS133
              refine wl_nil ?_
              refine qe_seq ?_
              refine wc_seq ?_
              refine wc_quiet mixed (by kernel_rfl) hS133 ?_
              refine wq_val wn rfl (fun _ _ => (rv_fieldAddr ff35_0 rfl)) ?_
              refine wq_val wn rfl (rq_loadm1 tf5 rfl (.head _) rfl) ?_
              refine wq_val wn rfl (fun _ _ => (rv_move rfl)) ?_
              refine wq_val wn rfl (fun _ _ => (rv_move rfl)) ?_
              obtain ⟨x134, hx135, h136⟩ := Option.bind_eq_some_iff.1 h120
              refine wq_val wn rfl (fun _ _ => (rv_sidx Try.underlying9 rfl rfl hx135)) ?_
              refine wq_val wn rfl (fun _ _ => (rv_beq rfl rfl)) ?_
              refine wq_nil ?_
              rintro w138 ⟨K137, hS139, hl140⟩
              refine qe_seq ?_
              refine wc_cond rfl (fun hb141 => ?_) (fun hb141 => ?_)
              · have h142 := cond_t hb141 h136
                refine wc_region ?_
                refine wl_val wn rfl (rv_fieldAddr ff35_1 rfl) ?_
                refine wl_val wn rfl (rv_loadm1 tf3 rfl (.head _) hS139 rfl) ?_
                refine wl_val wn rfl (rv_assign rfl) ?_
                refine wl_nil ?_
                refine qe_block ?_
                refine qe_seq ?_
                refine wc_region ?_
                refine wl_val wn rfl (rv_move rfl) ?_
                refine wl_val wn rfl (rv_add rfl rfl) ?_
                refine wl_val wn rfl (rv_assign rfl) ?_
                refine wl_nil ?_
                obtain rfl := Option.some.inj h142
                have hS143 : SH _ _ _ _ _ [] := SH.sublist hS139 (.cons _ .slnil)
                exact qe_mid' ⟨_, rfl, K137, rfl, hS143, ((hl70.trans hl83).trans hl140), hr73, hr126, (w64_rng _)⟩ ⟨rfl, rfl, rfl, rfl, rfl, rfl, rfl, trivial⟩
              · have h142 := cond_f hb141 h136
                refine wc_seq ?_
                refine wc_quiet mixed (by kernel_rfl) hS139 ?_
                refine wq_val wn rfl (fun _ _ => (rv_fieldAddr ff35_0 rfl)) ?_
                refine wq_val wn rfl (rq_loadm1 tf5 rfl (.head _) rfl) ?_
                refine wq_val wn rfl (fun _ _ => (rv_move rfl)) ?_
                refine wq_val wn rfl (fun _ _ => (rv_move rfl)) ?_
                obtain ⟨x144, hx145, h146⟩ := Option.bind_eq_some_iff.1 h142
                refine wq_val wn rfl (fun _ _ => (rv_sidx Try.underlying9 rfl rfl hx145)) ?_
                refine wq_val wn rfl (fun _ _ => (rv_bl rfl rfl)) ?_
                refine wq_nil ?_
                rintro w148 ⟨K147, hS149, hl150⟩
                refine qe_seq ?_
                refine wc_cond rfl (fun hb151 => ?_) (fun hb151 => ?_)
                · have h152 := cond_t hb151 h146
                  refine wc_region ?_
                  refine wl_val wn rfl (rv_move rfl) ?_
                  refine wl_val wn rfl (rv_move rfl) ?_
                  refine wl_val wn rfl (rv_fieldAddr ff35_1 rfl) ?_
                  refine wl_val wn rfl (rv_loadm1 tf3 rfl (.head _) hS149 rfl) ?_
                  obtain ⟨x153, hx154, h155⟩ := Option.bind_eq_some_iff.1 h152
                  refine wl_indexAddr (t := tGState) wn rfl Try.underlying28 tf33 rfl rfl (SliceAt.mono (((((hl21.trans hl50).trans hl70).trans hl83).trans hl140).trans hl150) hs4) hx154 ?_
                  intro b156 o157 u158 hu159 ha160
                  obtain ⟨a162, n163, c164, rfl, hr161, hs165⟩ := hu159
                  have ha166 : AtK _ b156 o157 [.bool x153.Final, .int .i64 x153.Many, .slice a162 n163 c164] := ha160
                  refine wl_val wn rfl (rv_fieldAddr ff33_1 rfl) ?_
                  refine wl_val wn rfl (rv_load1 tf3 rfl hS149 (ha166 1 _ rfl)) ?_
                  refine wl_val wn rfl (rv_add rfl rfl) ?_
                  refine wl_val wn rfl (rv_assign rfl) ?_
                  refine wl_nil ?_
                  refine qe_block ?_
                  refine qe_seq ?_
                  refine wc_region ?_
                  refine wl_val wn rfl (rv_move rfl) ?_
                  refine wl_val wn rfl (rv_add rfl rfl) ?_
                  refine wl_val wn rfl (rv_assign rfl) ?_
                  refine wl_nil ?_
                  obtain rfl := Option.some.inj h155
                  have hS167 : SH _ _ _ _ _ [] := SH.sublist hS149 (.cons _ .slnil)
                  exact qe_mid' ⟨_, rfl, K147, rfl, hS167, (((hl70.trans hl83).trans hl140).trans hl150), (w64_rng _), hr74, (w64_rng _)⟩ ⟨rfl, rfl, rfl, rfl, rfl, rfl, rfl, trivial⟩
                · have h152 := cond_f hb151 h146
                  refine wc_skip ?_
                  refine qe_block ?_
                  refine qe_seq ?_
                  refine wc_region ?_
                  refine wl_val wn rfl (rv_move rfl) ?_
                  refine wl_val wn rfl (rv_add rfl rfl) ?_
                  refine wl_val wn rfl (rv_assign rfl) ?_
                  refine wl_nil ?_
                  obtain rfl := Option.some.inj h152
                  have hS168 : SH _ _ _ _ _ [] := SH.sublist hS149 (.cons _ .slnil)
                  exact qe_mid' ⟨_, rfl, K147, rfl, hS168, (((hl70.trans hl83).trans hl140).trans hl150), hr73, hr74, (w64_rng _)⟩ ⟨rfl, rfl, rfl, rfl, rfl, rfl, rfl, trivial⟩
            · have h103 := cond_f hb102 h81
              refine wc_exit ?_
              refine qe_then_exit ?_
              refine qe_then_exit ?_
              obtain rfl := Option.some.inj h103
              have e169 := hx78 _ rfl
              subst e169
              refine qe_block_eq ?_
              obtain rfl := Option.some.inj h68
              exact qe_mid' ⟨K82, rfl, hS85, (hl70.trans hl83), hr73, hr74⟩ ⟨rfl, rfl, rfl, rfl, rfl, trivial⟩
        · rintro _ w61 ⟨K59, rfl, hS62, hl60, hr63, hr64⟩
          refine qe_seq ?_
          refine wc_seq ?_
          refine wc_seq ?_
          refine wc_region ?_
          refine wl_val wn rfl (rv_move rfl) ?_
          refine wl_val wn rfl (rv_lss rfl rfl) ?_
          refine wl_nil ?_
          refine qe_seq ?_
          refine wc_cond rfl (fun hb170 => ?_) (fun hb170 => ?_)
          · have h171 := cond_t hb170 h58
            refine wc_seq ?_
            refine wc_region ?_
            refine wl_val wn rfl (rv_assign (v := .int .i64 (-1)) rfl) ?_
            refine wl_val wn rfl (rv_assign (v := .int .i64 0) rfl) ?_
            refine wl_nil ?_
            refine qe_seq ?_
            refine wc_ret ?_
            refine qe_then_ret ?_
            refine qe_block_ret ?_
            refine qe_then_ret ?_
            refine qe_then_ret ?_
            obtain rfl := Option.some.inj h171
            have e172 := hx29 _ rfl
            subst e172
            refine qe_block_ret ?_
            refine qe_then_ret ?_
            obtain rfl := Option.some.inj h19
            refine qe_then_ret ?_
            obtain rfl := Option.some.inj h8
            exact qe_ret (vs := [_, _]) Try.results73 ⟨rfl, rfl, trivial⟩ ⟨K59, rfl, hS62, (by decide : rng64 (-1)), (by decide : rng64 0)⟩
          · have h171 := cond_f hb170 h58
            refine wc_skip ?_
            refine qe_seq ?_
            refine wc_region ?_
            refine wl_val wn rfl (rv_move rfl) ?_
            refine wl_val wn rfl (rv_assign rfl) ?_
            refine wl_nil ?_
            refine qe_block ?_
            refine qe_seq ?_
            refine wc_region ?_
            refine wl_val wn rfl (rv_move rfl) ?_
            refine wl_val wn rfl (rv_add rfl rfl) ?_
            refine wl_val wn rfl (rv_assign rfl) ?_
            refine wl_nil ?_
            obtain rfl := Option.some.inj h171
            exact qe_mid' ⟨_, rfl, K59, rfl, hS62, ((hl21.trans hl50).trans hl60), hr64, hr63, (w64_rng _)⟩ ⟨rfl, rfl, rfl, rfl, rfl, trivial⟩
    · have h31 := cond_f hb30 h28
      refine wc_exit ?_
      refine qe_then_exit ?_
      refine qe_then_exit ?_
      obtain rfl := Option.some.inj h31
      have e173 := hx29 _ rfl
      subst e173
      refine qe_block_eq ?_
      obtain rfl := Option.some.inj h19
      exact qe_mid' ⟨_, K20, rfl, rfl, hS23, hl21, hr24, hr25⟩ ⟨rfl, rfl, trivial⟩
  · rintro _ w12 ⟨s9, K10, rfl, rfl, hS13, hl11, hr14, hr15⟩
    refine qe_seq ?_
    refine wc_seq ?_
    refine wc_region ?_
    refine wl_val wn rfl (rv_move rfl) ?_
    refine wl_val wn rfl (rv_move rfl) ?_
    refine wl_val wn rfl (rv_assign rfl) ?_
    refine wl_val wn rfl (rv_assign rfl) ?_
    refine wl_nil ?_
    refine qe_seq ?_
    refine wc_ret ?_
    obtain rfl := Option.some.inj h8
    exact qe_ret (vs := [_, _]) Try.results73 ⟨rfl, rfl, trivial⟩ ⟨K10, rfl, hS13, hr14, hr15⟩

theorem ok_spec_DawgRank (F : Nat) {w : World} {K : KMap} {a1 : Option Addr} {n2 c3 : Nat} {p0_d : List GState} {p1_s : Str} {r : Int} (hS : SH w K [] w K []) (hs4 : SliceAt tGState K a1 n2 c3 p0_d) (hl5 : p1_s.length ≤ maxLen) (hm : M.spec_DawgRank F p0_d p1_s = some r) :
    Calls Try.prog 45 #[.slice a1 n2 c3, sv p1_s] w fun e w' => ∃ (K' : KMap), e = .returned (.int .i64 r) ∧ SH w K [] w' K' [] ∧ rng64 r := by
  rw [M.spec_DawgRank] at hm
  refine calls_in Try.func45 rfl Try.ntmps45 rfl ?_
  refine wc_seq ?_
  refine wc_region ?_
  refine wl_val wn rfl (rv_assign (v := .int .i64 0) rfl) ?_
  refine wl_nil ?_
  refine qe_seq ?_
  refine wc_seq ?_
  refine wc_seq ?_
  refine wc_region ?_
  refine wl_val wn rfl (rv_move rfl) ?_
  obtain ⟨r6, hx7, h8⟩ := Option.bind_eq_some_iff.1 hm
  refine wl_call wn rfl (rt_call (vs := [.slice a1 n2 c3]) co68 rfl) ((ok_spec_l4Ok F) hS.enter0 hs4 hx7) ?_
  rintro e12 w10 ⟨K9, rfl, hS11⟩
  refine ⟨_, rfl, ?_⟩
  have hS13 : SH _ _ _ _ _ [] := SH.call0 hS hS11
  refine wl_val wn rfl (rv_not rfl) ?_
  refine wl_nil ?_
  refine qe_seq ?_
  refine wc_cond rfl (fun hb14 => ?_) (fun hb14 => ?_)
  · have h15 := cond_t hb14 h8
    refine wc_seq ?_
    refine wc_region ?_
    refine wl_val wn rfl (rv_assign (v := .int .i64 (-1)) rfl) ?_
    refine wl_nil ?_
    refine qe_seq ?_
    refine wc_ret ?_
    refine qe_then_ret ?_
    obtain rfl := Option.some.inj h15
    exact qe_ret (vs := [_]) Try.results45 ⟨rfl, trivial⟩ ⟨K9, rfl, hS13, (by decide : rng64 (-1))⟩
  · have h15 := cond_f hb14 h8
    refine wc_skip ?_
    refine qe_seq ?_
    refine wc_seq ?_
    refine wc_region ?_
    refine wl_val wn rfl (rv_move rfl) ?_
    refine wl_val wn rfl (rv_move rfl) ?_
    obtain ⟨r16, hx17, h18⟩ := Option.bind_eq_some_iff.1 h15
    refine wl_call wn rfl (rt_call (vs := [.slice a1 n2 c3, sv p1_s]) co73 rfl) ((ok_spec_l4Go F) hS13.enter0 (SliceAt.mono hS11.le hs4) hl5 hx17) ?_
    rintro e24 w20 ⟨K19, rfl, hS21, hr22, hr23⟩
    refine ⟨_, rfl, ?_⟩
    have hS25 : SH _ _ _ _ _ [] := SH.call0 hS13 hS21
    refine wl_val wn rfl (rv_move rfl) ?_
    refine wl_val wn rfl (rv_extract rfl rfl) ?_
    refine wl_val wn rfl (rv_extract rfl rfl) ?_
    refine wl_val wn rfl (rv_assign rfl) ?_
    refine wl_val wn rfl (rv_assign rfl) ?_
    refine wl_nil ?_
    refine qe_seq ?_
    refine wc_seq ?_
    refine wc_seq ?_
    obtain ⟨o26, h27, h28⟩ := Option.bind_eq_some_iff.1 h18
    refine wc_cutg (fun E' w' => ∃ (K29 : KMap), E' = [(6, .int .i64 r16.2), (25, .bool o26)] ∧ SH w K [] w' K29 [] ∧ KLe K19 K29) ?_ ?_
    · refine wc_region ?_
      refine wl_val wn rfl (rv_move rfl) ?_
      refine wl_val wn rfl (rv_lss rfl rfl) ?_
      refine wl_val wn rfl (rv_move rfl) ?_
      rcases bool_tf (decide (r16.1 < (0 : Int))) with hb33 | hb33
      · have h34 := cond_t hb33 h27
        refine wl_un (ug rfl rfl hb33) rfl ?_
        refine wl_un (ug rfl rfl hb33) rfl ?_
        refine wl_un (ug rfl rfl hb33) rfl ?_
        refine wl_un (ug rfl rfl hb33) rfl ?_
        refine wl_un (ug rfl rfl hb33) rfl ?_
        refine wl_un (ug rfl rfl hb33) rfl ?_
        refine wl_val wn rfl (rv_pick_t (v := .bool true) rfl hb33 rfl) ?_
        refine wl_nil ?_
        obtain rfl := Option.some.inj h34
        exact qe_mid' ⟨K19, rfl, hS25, (KLe.refl _)⟩ ⟨rfl, rfl, trivial⟩
      · have h34 := cond_f hb33 h27
        refine wl_val (wg rfl rfl hb33) rfl (rv_move rfl) ?_
        refine wl_val (wg rfl rfl hb33) rfl (rv_move rfl) ?_
        obtain ⟨x35, hx36, h37⟩ := Option.bind_eq_some_iff.1 h34
        refine wl_indexAddr (t := tGState) (wg rfl rfl hb33) rfl Try.underlying28 tf33 rfl rfl (SliceAt.mono (hS11.le.trans hS21.le) hs4) hx36 ?_
        intro b38 o39 u40 hu41 ha42
        obtain ⟨a44, n45, c46, rfl, hr43, hs47⟩ := hu41
        have ha48 : AtK _ b38 o39 [.bool x35.Final, .int .i64 x35.Many, .slice a44 n45 c46] := ha42
        refine wl_val (wg rfl rfl hb33) rfl (rv_fieldAddr ff33_0 rfl) ?_
        refine wl_val (wg rfl rfl hb33) rfl (rv_load1 tf4 rfl hS25 (ha48 0 _ rfl)) ?_
        refine wl_val (wg rfl rfl hb33) rfl (rv_not rfl) ?_
        refine wl_val wn rfl (rv_pick_f rfl hb33 rfl) ?_
        refine wl_nil ?_
        obtain rfl := Option.some.inj h37
        exact qe_mid' ⟨K19, rfl, hS25, (KLe.refl _)⟩ ⟨rfl, rfl, trivial⟩
    · rintro _ w31 ⟨K29, rfl, hS32, hl30⟩
      refine qe_seq ?_
      refine wc_cond rfl (fun hb49 => ?_) (fun hb49 => ?_)
      · have h50 := cond_t hb49 h28
        refine wc_seq ?_
        refine wc_region ?_
        refine wl_val wn rfl (rv_assign (v := .int .i64 (-1)) rfl) ?_
        refine wl_nil ?_
        refine qe_seq ?_
        refine wc_ret ?_
        refine qe_then_ret ?_
        obtain rfl := Option.some.inj h50
        exact qe_ret (vs := [_]) Try.results45 ⟨rfl, trivial⟩ ⟨K29, rfl, hS32, (by decide : rng64 (-1))⟩
      · have h50 := cond_f hb49 h28
        refine wc_skip ?_
        refine qe_seq ?_
        refine wc_seq ?_
        refine wc_region ?_
        refine wl_val wn rfl (rv_move rfl) ?_
        refine wl_val wn rfl (rv_assign rfl) ?_
        refine wl_nil ?_
        refine qe_seq ?_
        refine wc_ret ?_
        obtain rfl := Option.some.inj h50
        exact qe_ret (vs := [_]) Try.results45 ⟨rfl, trivial⟩ ⟨K29, rfl, hS32, hr23⟩

theorem ok_laws_FnExactDawgRank (F : Nat) {w : World} {K : KMap} {a1 : Option Addr} {n2 c3 : Nat} {p0_aD : List GState} {p1_aS : Str} {r : Bool} (hS : SH w K [] w K []) (hs4 : SliceAt tGState K a1 n2 c3 p0_aD) (hl5 : p1_aS.length ≤ maxLen) (hm : M.laws_FnExactDawgRank F p0_aD p1_aS = some r) :
    Calls Try.prog 12 #[.slice a1 n2 c3, sv p1_aS] w fun e w' => ∃ (K' : KMap), e = .returned (.bool r) ∧ SH w K [] w' K' [] := by
  rw [M.laws_FnExactDawgRank] at hm
  refine calls_in Try.func12 rfl Try.ntmps12 rfl ?_
  refine wc_seq ?_
  refine wc_region ?_
  refine wl_val wn rfl (rv_assign (v := .bool false) rfl) ?_
  refine wl_nil ?_
  refine qe_seq ?_
  refine wc_seq ?_
  refine wc_seq ?_
  refine wc_region ?_
  refine wl_val wn rfl (rv_move rfl) ?_
  refine wl_val wn rfl (rv_slen Try.underlying9 rfl) ?_
  refine wl_val wn rfl (rv_gtr rfl rfl) ?_
  refine wl_nil ?_
  refine qe_seq ?_
  refine wc_cond rfl (fun hb6 => ?_) (fun hb6 => ?_)
  · have h7 := cond_t hb6 hm
    refine wc_seq ?_
    refine wc_region ?_
    refine wl_val wn rfl (rv_assign (v := .bool true) rfl) ?_
    refine wl_nil ?_
    refine qe_seq ?_
    refine wc_ret ?_
    refine qe_then_ret ?_
    obtain rfl := Option.some.inj h7
    exact qe_ret (vs := [_]) Try.results12 ⟨rfl, trivial⟩ ⟨K, rfl, hS⟩
  · have h7 := cond_f hb6 hm
    refine wc_skip ?_
    refine qe_seq ?_
    refine wc_seq ?_
    refine wc_region ?_
    refine wl_val wn rfl (rv_assign (v := .int .i64 1048576) rfl) ?_
    refine wl_nil ?_
    refine qe_seq ?_
    refine wc_seq ?_
    refine wc_region ?_
    refine wl_val wn rfl (rv_move rfl) ?_
    refine wl_val wn rfl (rv_move rfl) ?_
    obtain ⟨r8, hx9, h10⟩ := Option.bind_eq_some_iff.1 h7
    refine wl_call wn rfl (rt_call (vs := [.slice a1 n2 c3, .int .i64 1048576]) co40 rfl) ((ok_laws_szStateS F) hS.enter0 hs4 (by decide : rng64 1048576) hx9) ?_
    rintro e15 w12 ⟨K11, rfl, hS13, hr14⟩
    refine ⟨_, rfl, ?_⟩
    have hS16 : SH _ _ _ _ _ [] := SH.call0 hS hS13
    refine wl_val wn rfl (rv_assign rfl) ?_
    refine wl_nil ?_
    refine qe_seq ?_
    refine wc_seq ?_
    refine wc_seq ?_
    refine wc_region ?_
    refine wl_val wn rfl (rv_move rfl) ?_
    refine wl_val wn rfl (rv_lss rfl rfl) ?_
    refine wl_nil ?_
    refine qe_seq ?_
    refine wc_cond rfl (fun hb17 => ?_) (fun hb17 => ?_)
    · have h18 := cond_t hb17 h10
      refine wc_seq ?_
      refine wc_region ?_
      refine wl_val wn rfl (rv_assign (v := .bool true) rfl) ?_
      refine wl_nil ?_
      refine qe_seq ?_
      refine wc_ret ?_
      refine qe_then_ret ?_
      obtain rfl := Option.some.inj h18
      exact qe_ret (vs := [_]) Try.results12 ⟨rfl, trivial⟩ ⟨K11, rfl, hS16⟩
    · have h18 := cond_f hb17 h10
      refine wc_skip ?_
      refine qe_seq ?_
      refine wc_seq ?_
      refine wc_region ?_
      refine wl_val wn rfl (rv_move rfl) ?_
      obtain ⟨r19, hx20, h21⟩ := Option.bind_eq_some_iff.1 h18
      refine wl_call wn rfl (rt_call (vs := [.slice a1 n2 c3]) co42 rfl) ((ok_laws_toStateS F) hS16.enter0 (SliceAt.mono hS13.le hs4) hx20) ?_
      rintro e29 w23 ⟨a25, n26, c27, K22, rfl, hS24, hs28⟩
      refine ⟨_, rfl, ?_⟩
      have hS30 : SH _ _ _ _ _ [_] := SH.call0 hS16 hS24
      refine wl_val wn rfl (rv_move rfl) ?_
      obtain ⟨r31, hx32, h33⟩ := Option.bind_eq_some_iff.1 h21
      refine wl_call wn rfl (rt_call (vs := [.slice a25 n26 c27, sv p1_aS]) co45 rfl) ((ok_spec_DawgRank F) hS30.enter0 hs28 hl5 hx32) ?_
      rintro e38 w35 ⟨K34, rfl, hS36, hr37⟩
      refine ⟨_, rfl, ?_⟩
      have hS39 : SH _ _ _ _ _ [_] := SH.call0 hS30 hS36
      refine wl_val wn rfl (rv_assign rfl) ?_
      refine wl_nil ?_
      refine qe_seq ?_
      refine wc_seq ?_
      refine wc_region ?_
      refine wl_val wn rfl (rv_move rfl) ?_
      obtain ⟨r40, hx41, h42⟩ := Option.bind_eq_some_iff.1 h33
      refine wl_call wn rfl (rt_call (vs := [.slice a1 n2 c3]) co42 rfl) ((ok_laws_toStateS F) hS39.enter0 (SliceAt.mono ((hS13.le.trans hS24.le).trans hS36.le) hs4) hx41) ?_
      rintro e50 w44 ⟨a46, n47, c48, K43, rfl, hS45, hs49⟩
      refine ⟨_, rfl, ?_⟩
      have hS51 : SH _ _ _ _ _ [_, _] := SH.call0 hS39 hS45
      refine wl_val wn rfl (rv_assign rfl) ?_
      refine wl_nil ?_
      refine qe_seq ?_
      refine wc_seq ?_
      refine wc_region ?_
      refine wl_val wn rfl (rv_move rfl) ?_
      refine wl_val wn rfl (rv_move rfl) ?_
      obtain ⟨r52, hx53, h54⟩ := Option.bind_eq_some_iff.1 h42
      refine wl_call wn rfl (rt_call (vs := [.slice a46 n47 c48, sv p1_aS]) co32 rfl) ((ok_impl_DawgRank F) hS51.enter0 hs49 hl5 hx53) ?_
      rintro e59 w56 ⟨K55, rfl, hS57, hr58⟩
      refine ⟨_, rfl, ?_⟩
      have hS60 : SH _ _ _ _ _ [_, _] := SH.call0 hS51 hS57
      refine wl_val wn rfl (rv_assign rfl) ?_
      refine wl_nil ?_
      refine qe_seq ?_
      refine wc_seq ?_
      refine wc_seq ?_
      refine wc_region ?_
      refine wl_val wn rfl (rv_move rfl) ?_
      refine wl_val wn rfl (rv_move rfl) ?_
      refine wl_val wn rfl (rv_neq rfl rfl) ?_
      refine wl_nil ?_
      refine qe_seq ?_
      refine wc_cond rfl (fun hb61 => ?_) (fun hb61 => ?_)
      · have h62 := cond_t hb61 h54
        refine wc_seq ?_
        refine wc_region ?_
        refine wl_val wn rfl (rv_assign (v := .bool false) rfl) ?_
        refine wl_nil ?_
        refine qe_seq ?_
        refine wc_ret ?_
        refine qe_then_ret ?_
        obtain rfl := Option.some.inj h62
        have hS63 : SH _ _ _ _ _ [] := SH.sublist hS60 (.cons _ (.cons _ .slnil))
        exact qe_ret (vs := [_]) Try.results12 ⟨rfl, trivial⟩ ⟨K55, rfl, hS63⟩
      · have h62 := cond_f hb61 h54
        refine wc_skip ?_
        refine qe_seq ?_
        refine wc_seq ?_
        refine wc_seq ?_
        refine wc_region ?_
        refine wl_val wn rfl (rv_move rfl) ?_
        refine wl_val wn rfl (rv_move rfl) ?_
        obtain ⟨r64, hx65, h66⟩ := Option.bind_eq_some_iff.1 h62
        refine wl_call wn rfl (rt_call (vs := [.slice a1 n2 c3]) co42 rfl) ((ok_laws_toStateS F) hS60.enter0 (SliceAt.mono ((((hS13.le.trans hS24.le).trans hS36.le).trans hS45.le).trans hS57.le) hs4) hx65) ?_
        rintro e74 w68 ⟨a70, n71, c72, K67, rfl, hS69, hs73⟩
        refine ⟨_, rfl, ?_⟩
        have hS75 : SH _ _ _ _ _ [_, _, _] := SH.call0 hS60 hS69
        obtain ⟨r76, hx77, h78⟩ := Option.bind_eq_some_iff.1 h66
        refine wl_call wn rfl (rt_call (vs := [.slice a46 n47 c48, .slice a70 n71 c72]) co24 rfl) ((ok_laws_eqStateS F) hS75.enter0 (SliceAt.mono (hS57.le.trans hS69.le) hs49) hs73 hx77) ?_
        rintro e82 w80 ⟨K79, rfl, hS81⟩
        refine ⟨_, rfl, ?_⟩
        have hS83 : SH _ _ _ _ _ [_, _, _] := SH.call0 hS75 hS81
        refine wl_val wn rfl (rv_not rfl) ?_
        refine wl_nil ?_
        refine qe_seq ?_
        refine wc_cond rfl (fun hb84 => ?_) (fun hb84 => ?_)
        · have h85 := cond_t hb84 h78
          refine wc_seq ?_
          refine wc_region ?_
          refine wl_val wn rfl (rv_assign (v := .bool false) rfl) ?_
          refine wl_nil ?_
          refine qe_seq ?_
          refine wc_ret ?_
          refine qe_then_ret ?_
          obtain rfl := Option.some.inj h85
          have hS86 : SH _ _ _ _ _ [] := SH.sublist hS83 (.cons _ (.cons _ (.cons _ .slnil)))
          exact qe_ret (vs := [_]) Try.results12 ⟨rfl, trivial⟩ ⟨K79, rfl, hS86⟩
        · have h85 := cond_f hb84 h78
          refine wc_skip ?_
          refine qe_seq ?_
          refine wc_seq ?_
          refine wc_region ?_
          refine wl_val wn rfl (rv_assign (v := .bool true) rfl) ?_
          refine wl_nil ?_
          refine qe_seq ?_
          refine wc_ret ?_
          obtain rfl := Option.some.inj h85
          have hS87 : SH _ _ _ _ _ [] := SH.sublist hS83 (.cons _ (.cons _ (.cons _ .slnil)))
          exact qe_ret (vs := [_]) Try.results12 ⟨rfl, trivial⟩ ⟨K79, rfl, hS87⟩
end Go.Proofs.Ytdopcpaapniioaa
