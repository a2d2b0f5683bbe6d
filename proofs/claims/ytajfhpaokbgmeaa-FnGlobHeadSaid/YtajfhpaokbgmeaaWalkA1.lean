/-
  Walks of the functions. Printed by gen.py.
-/
import Derived.Test.YtajfhpaokbgmeaaWalkA0
set_option linter.unusedVariables false
namespace Go.Proofs.Ytajfhpaokbgmeaa
open Go Go.Fk Go.RowKit

theorem ok_spec_DrawNearFar (F : Nat) {w : World} {K : KMap} {a1 : Option Addr} {n2 c3 : Nat} {p0_code : List UInt8} {r : Str × Str} (hS : SH w K [] w K []) (hs4 : SliceAt tU8 K a1 n2 c3 p0_code) (hm : M.spec_DrawNearFar F p0_code = some r) :
    Calls Try.prog 22 #[.slice a1 n2 c3] w fun e w' => ∃ (K' : KMap), e = .returned (.tuple #[sv r.1, sv r.2]) ∧ SH w K [] w' K' [] ∧ r.1.length ≤ maxLen ∧ r.2.length ≤ maxLen := by
  rw [M.spec_DrawNearFar] at hm
  refine calls_in Try.func22 rfl Try.ntmps22 rfl ?_
  refine wc_seq ?_
  refine wc_region ?_
  refine wl_val wn rfl (rv_assign (v := sv []) rfl) ?_
  refine wl_val wn rfl (rv_assign (v := sv []) rfl) ?_
  refine wl_nil ?_
  refine qe_seq ?_
  refine wc_seq ?_
  refine wc_region ?_
  refine wl_val wn rfl (rv_move rfl) ?_
  obtain ⟨r5, hx6, h7⟩ := Option.bind_eq_some_iff.1 hm
  refine wl_call wn rfl (rt_call (vs := [.slice a1 n2 c3]) co54 rfl) ((ok_spec_l30Open F) hS.enter0 hs4 hx6) ?_
  rintro e17 w9 ⟨g11, a12, n13, c14, K8, rfl, hS10, hs15, hr16⟩
  refine ⟨_, rfl, ?_⟩
  have hS18 : SH _ _ _ _ _ [_] := SH.call0 hS hS10
  refine wl_val wn rfl (rv_assign rfl) ?_
  refine wl_nil ?_
  refine qe_seq ?_
  refine wc_seq ?_
  refine wc_region ?_
  refine wl_val wn rfl (rv_move rfl) ?_
  obtain ⟨r19, hx20, h21⟩ := Option.bind_eq_some_iff.1 h7
  refine wl_call wn rfl (rt_call (vs := [.pointer (some ⟨g11, 0, none⟩)]) co64 rfl) ((ok_spec_l30Word F) (SH.enter (Lin := [_]) hS18) hs15 hr16 hx20) ?_
  rintro e31 w23 ⟨a26, n27, c28, K22, rfl, hS24, hl25, hs29, hr30⟩
  refine ⟨_, rfl, ?_⟩
  have hS32 : SH _ _ _ _ _ [_] := SH.call (Lin := [_]) hS18 hS24
  refine wl_val wn rfl (rv_assign rfl) ?_
  refine wl_nil ?_
  refine qe_seq ?_
  refine wc_seq ?_
  refine wc_seq ?_
  refine wc_region ?_
  refine wl_val wn rfl (rv_move rfl) ?_
  obtain ⟨r33, hx34, h35⟩ := Option.bind_eq_some_iff.1 h21
  refine wl_call wn rfl (rt_call (vs := [.pointer (some ⟨g11, 0, none⟩), .int .i64 10]) co56 rfl) ((ok_spec_l30Rd_pick F) (SH.enter (Lin := [_]) hS32) hs29 hr30 (by decide : rng64 10) hx34) ?_
  rintro e45 w37 ⟨a40, n41, c42, K36, rfl, hS38, hr39, hs43, hr44⟩
  refine ⟨_, rfl, ?_⟩
  have hS46 : SH _ _ _ _ _ [_] := SH.call (Lin := [_]) hS32 hS38
  refine wl_val wn rfl (rv_eql rfl rfl) ?_
  refine wl_nil ?_
  refine qe_seq ?_
  refine wc_cond rfl (fun hb47 => ?_) (fun hb47 => ?_)
  · have h48 := cond_t hb47 h35
    refine wc_seq ?_
    refine wc_region ?_
    refine wl_val wn rfl (rv_move rfl) ?_
    refine wl_val wn rfl (rv_assign rfl) ?_
    refine wl_val wn rfl (rv_assign (v := sv [67, 97, 116]) rfl) ?_
    refine wl_nil ?_
    refine qe_seq ?_
    refine wc_ret ?_
    refine qe_then_ret ?_
    obtain rfl := Option.some.inj h48
    have hS49 : SH _ _ _ _ _ [] := SH.sublist hS46 (.cons _ .slnil)
    exact qe_ret (vs := [_, _]) Try.results22 ⟨rfl, rfl, trivial⟩ ⟨K36, rfl, hS49, hl25, (by decide : ([67, 97, 116] : Str).length ≤ maxLen)⟩
  · have h48 := cond_f hb47 h35
    refine wc_skip ?_
    refine qe_seq ?_
    refine wc_seq ?_
    refine wc_region ?_
    refine wl_val wn rfl (rv_move rfl) ?_
    refine wl_val wn rfl (rv_move rfl) ?_
    obtain ⟨r50, hx51, h52⟩ := Option.bind_eq_some_iff.1 h48
    refine wl_call wn rfl (rt_call (vs := [.pointer (some ⟨g11, 0, none⟩)]) co64 rfl) ((ok_spec_l30Word F) (SH.enter (Lin := [_]) hS46) hs43 hr44 hx51) ?_
    rintro e62 w54 ⟨a57, n58, c59, K53, rfl, hS55, hl56, hs60, hr61⟩
    refine ⟨_, rfl, ?_⟩
    have hS63 : SH _ _ _ _ _ [_] := SH.call (Lin := [_]) hS46 hS55
    refine wl_val wn rfl (rv_assign rfl) ?_
    refine wl_val wn rfl (rv_assign rfl) ?_
    refine wl_nil ?_
    refine qe_seq ?_
    refine wc_ret ?_
    obtain rfl := Option.some.inj h52
    have hS64 : SH _ _ _ _ _ [] := SH.sublist hS63 (.cons _ .slnil)
    exact qe_ret (vs := [_, _]) Try.results22 ⟨rfl, rfl, trivial⟩ ⟨K53, rfl, hS64, hl25, hl56⟩

theorem ok_impl_within (F : Nat) {w : World} {K : KMap} {p0_n : Int} {p1_low : Int} {p2_high : Int} {r : Bool} (hS : SH w K [] w K []) (hr1 : rng64 p0_n) (hr2 : rng64 p1_low) (hr3 : rng64 p2_high) (hm : M.impl_within F p0_n p1_low p2_high = some r) :
    Calls Try.prog 72 #[.int .i64 p0_n, .int .i64 p1_low, .int .i64 p2_high] w fun e w' => ∃ (K' : KMap), e = .returned (.bool r) ∧ SH w K [] w' K' [] := by
  rw [M.impl_within] at hm
  refine calls_in Try.func72 rfl Try.ntmps72 rfl ?_
  refine wc_seq ?_
  refine wc_region ?_
  refine wl_val wn rfl (rv_assign (v := .bool false) rfl) ?_
  refine wl_nil ?_
  refine qe_seq ?_
  refine wc_seq ?_
  refine wc_region ?_
  refine wl_val wn rfl (rv_move rfl) ?_
  refine wl_val wn rfl (rv_move rfl) ?_
  refine wl_val wn rfl (rv_geq rfl rfl) ?_
  refine wl_val wn rfl (rv_move rfl) ?_
  rcases bool_tf (decide (p1_low ≤ p0_n)) with hb4 | hb4
  · have h5 := cond_t hb4 hm
    refine wl_val (wg rfl rfl hb4) rfl (rv_move rfl) ?_
    refine wl_val (wg rfl rfl hb4) rfl (rv_move rfl) ?_
    refine wl_val (wg rfl rfl hb4) rfl (rv_leq rfl rfl) ?_
    refine wl_val wn rfl (rv_pick_t rfl hb4 rfl) ?_
    refine wl_val wn rfl (rv_assign rfl) ?_
    refine wl_nil ?_
    refine qe_seq ?_
    refine wc_ret ?_
    obtain rfl := Option.some.inj h5
    exact qe_ret (vs := [_]) Try.results72 ⟨rfl, trivial⟩ ⟨K, rfl, hS⟩
  · have h5 := cond_f hb4 hm
    refine wl_un (ug rfl rfl hb4) rfl ?_
    refine wl_un (ug rfl rfl hb4) rfl ?_
    refine wl_un (ug rfl rfl hb4) rfl ?_
    refine wl_val wn rfl (rv_pick_f (v := .bool false) rfl hb4 rfl) ?_
    refine wl_val wn rfl (rv_assign rfl) ?_
    refine wl_nil ?_
    refine qe_seq ?_
    refine wc_ret ?_
    obtain rfl := Option.some.inj h5
    exact qe_ret (vs := [_]) Try.results72 ⟨rfl, trivial⟩ ⟨K, rfl, hS⟩

theorem ok_impl_wordByte (F : Nat) {w : World} {K : KMap} {p0_b : UInt8} {r : Bool} (hS : SH w K [] w K []) (hm : M.impl_wordByte F p0_b = some r) :
    Calls Try.prog 98 #[iv8 p0_b] w fun e w' => ∃ (K' : KMap), e = .returned (.bool r) ∧ SH w K [] w' K' [] := by
  rw [M.impl_wordByte] at hm
  refine calls_in Try.func98 rfl Try.ntmps98 rfl ?_
  refine wc_seq ?_
  refine wc_region ?_
  refine wl_val wn rfl (rv_assign (v := .bool false) rfl) ?_
  refine wl_nil ?_
  refine qe_seq ?_
  refine wc_seq ?_
  refine wc_region ?_
  refine wl_val wn rfl (rv_move rfl) ?_
  refine wl_val wn rfl (rv_bge (b := (97 : UInt8)) rfl rfl) ?_
  refine wl_val wn rfl (rv_move rfl) ?_
  rcases bool_tf (decide ((97 : UInt8) ≤ p0_b)) with hb1 | hb1
  · have h2 := cond_t hb1 hm
    refine wl_val (wg rfl rfl hb1) rfl (rv_move rfl) ?_
    refine wl_val (wg rfl rfl hb1) rfl (rv_ble (b := (122 : UInt8)) rfl rfl) ?_
    refine wl_val wn rfl (rv_pick_t rfl hb1 rfl) ?_
    refine wl_val wn rfl (rv_move rfl) ?_
    rcases bool_tf (decide (p0_b ≤ (122 : UInt8))) with hb3 | hb3
    · have h4 := cond_t hb3 h2
      refine wl_un (ug rfl rfl hb3) rfl ?_
      refine wl_un (ug rfl rfl hb3) rfl ?_
      refine wl_un (ug rfl rfl hb3) rfl ?_
      refine wl_un (uu rfl rfl) rfl ?_
      refine wl_un (uu rfl rfl) rfl ?_
      refine wl_un (ug rfl rfl hb3) rfl ?_
      refine wl_val wn rfl (rv_pick_t (v := .bool true) rfl hb3 rfl) ?_
      refine wl_val wn rfl (rv_assign rfl) ?_
      refine wl_nil ?_
      refine qe_seq ?_
      refine wc_ret ?_
      obtain rfl := Option.some.inj h4
      exact qe_ret (vs := [_]) Try.results98 ⟨rfl, trivial⟩ ⟨K, rfl, hS⟩
    · have h4 := cond_f hb3 h2
      refine wl_val (wg rfl rfl hb3) rfl (rv_move rfl) ?_
      refine wl_val (wg rfl rfl hb3) rfl (rv_bge (b := (48 : UInt8)) rfl rfl) ?_
      refine wl_val (wg rfl rfl hb3) rfl (rv_move rfl) ?_
      rcases bool_tf (decide ((48 : UInt8) ≤ p0_b)) with hb5 | hb5
      · have h6 := cond_t hb5 h4
        refine wl_val (wg rfl rfl hb5) rfl (rv_move rfl) ?_
        refine wl_val (wg rfl rfl hb5) rfl (rv_ble (b := (57 : UInt8)) rfl rfl) ?_
        refine wl_val (wg rfl rfl hb3) rfl (rv_pick_t rfl hb5 rfl) ?_
        refine wl_val wn rfl (rv_pick_f rfl hb3 rfl) ?_
        refine wl_val wn rfl (rv_assign rfl) ?_
        refine wl_nil ?_
        refine qe_seq ?_
        refine wc_ret ?_
        obtain rfl := Option.some.inj h6
        exact qe_ret (vs := [_]) Try.results98 ⟨rfl, trivial⟩ ⟨K, rfl, hS⟩
      · have h6 := cond_f hb5 h4
        refine wl_un (ug rfl rfl hb5) rfl ?_
        refine wl_un (ug rfl rfl hb5) rfl ?_
        refine wl_val (wg rfl rfl hb3) rfl (rv_pick_f (v := .bool false) rfl hb5 rfl) ?_
        refine wl_val wn rfl (rv_pick_f rfl hb3 rfl) ?_
        refine wl_val wn rfl (rv_assign rfl) ?_
        refine wl_nil ?_
        refine qe_seq ?_
        refine wc_ret ?_
        obtain rfl := Option.some.inj h6
        exact qe_ret (vs := [_]) Try.results98 ⟨rfl, trivial⟩ ⟨K, rfl, hS⟩
  · have h2 := cond_f hb1 hm
    refine wl_un (ug rfl rfl hb1) rfl ?_
    refine wl_un (ug rfl rfl hb1) rfl ?_
    refine wl_val wn rfl (rv_pick_f (v := .bool false) rfl hb1 rfl) ?_
    refine wl_val wn rfl (rv_move rfl) ?_
    refine wl_val (wg rfl rfl rfl) rfl (rv_move rfl) ?_
    refine wl_val (wg rfl rfl rfl) rfl (rv_bge (b := (48 : UInt8)) rfl rfl) ?_
    refine wl_val (wg rfl rfl rfl) rfl (rv_move rfl) ?_
    rcases bool_tf (decide ((48 : UInt8) ≤ p0_b)) with hb7 | hb7
    · have h8 := cond_t hb7 h2
      refine wl_val (wg rfl rfl hb7) rfl (rv_move rfl) ?_
      refine wl_val (wg rfl rfl hb7) rfl (rv_ble (b := (57 : UInt8)) rfl rfl) ?_
      refine wl_val (wg rfl rfl rfl) rfl (rv_pick_t rfl hb7 rfl) ?_
      refine wl_val wn rfl (rv_pick_f rfl rfl rfl) ?_
      refine wl_val wn rfl (rv_assign rfl) ?_
      refine wl_nil ?_
      refine qe_seq ?_
      refine wc_ret ?_
      obtain rfl := Option.some.inj h8
      exact qe_ret (vs := [_]) Try.results98 ⟨rfl, trivial⟩ ⟨K, rfl, hS⟩
    · have h8 := cond_f hb7 h2
      refine wl_un (ug rfl rfl hb7) rfl ?_
      refine wl_un (ug rfl rfl hb7) rfl ?_
      refine wl_val (wg rfl rfl rfl) rfl (rv_pick_f (v := .bool false) rfl hb7 rfl) ?_
      refine wl_val wn rfl (rv_pick_f rfl rfl rfl) ?_
      refine wl_val wn rfl (rv_assign rfl) ?_
      refine wl_nil ?_
      refine qe_seq ?_
      refine wc_ret ?_
      obtain rfl := Option.some.inj h8
      exact qe_ret (vs := [_]) Try.results98 ⟨rfl, trivial⟩ ⟨K, rfl, hS⟩

theorem ok_impl_WordOk (F : Nat) {w : World} {K : KMap} {p0_s : Str} {r : Bool} (hS : SH w K [] w K []) (hl1 : p0_s.length ≤ maxLen) (hm : M.impl_WordOk F p0_s = some r) :
    Calls Try.prog 52 #[sv p0_s] w fun e w' => ∃ (K' : KMap), e = .returned (.bool r) ∧ SH w K [] w' K' [] := by
  rw [M.impl_WordOk] at hm
  refine calls_in Try.func52 rfl Try.ntmps52 rfl ?_
  refine wc_seq ?_
  refine wc_region ?_
  refine wl_val wn rfl (rv_assign (v := .bool false) rfl) ?_
  refine wl_nil ?_
  refine qe_seq ?_
  refine wc_seq ?_
  refine wc_seq ?_
  refine wc_region ?_
  refine wl_val wn rfl (rv_move rfl) ?_
  refine wl_val wn rfl (rv_slen Try.underlying9 rfl) ?_
  refine wl_val wn rfl (rv_move (v := .int .i64 0) rfl) ?_
  refine wl_nil ?_
  refine qe_seq ?_
  obtain ⟨o2, h3, h4⟩ := Option.bind_eq_some_iff.1 hm
  refine wc_cutg (fun E' w' => ∃ (s5 : Unit) (K6 : KMap), o2 = .inl s5 ∧ E' = [(0, sv p0_s)] ∧ SH w K [] w' K6 [] ∧ KLe K K6) ?_ ?_
  · refine wc_block ?_
    obtain ⟨r11, h12, h13⟩ := Option.bind_eq_some_iff.1 h3
    refine wc_for' (fun (i14 : Nat) (s10 : Unit) E' w' => ∃ (K15 : KMap), E' = [(0, sv p0_s), (5, .int .i64 (p0_s.length : Int)), (6, .int .i64 ((i14 : Nat) : Int))] ∧ SH w K [] w' K15 [] ∧ KLe K K15) h12 ⟨K, rfl, hS, (KLe.refl _)⟩ ⟨rfl, rfl, rfl, trivial⟩ ?_ ?_
    · rintro i14 s10 _ w17 r19 hi20 h21 hx22 ⟨K15, rfl, hS18, hl16⟩
      refine wc_seq (wc_region ?_)
      refine wl_val wn rfl (rv_lss rfl rfl) ?_
      refine wl_nil (qe_seq (wc_seq ?_))
      refine wc_cond_t rfl (decide_eq_true (by omega)) (wc_skip (qe_seq (wc_seq ?_)))
      refine wc_block ?_
      refine wc_seq ?_
      refine wc_region ?_
      refine wl_val wn rfl (rv_move rfl) ?_
      refine wl_val wn rfl (rv_assign rfl) ?_
      refine wl_nil ?_
      refine qe_seq ?_
      refine wc_seq ?_
      refine wc_region ?_
      refine wl_val wn rfl (rv_move rfl) ?_
      refine wl_val wn rfl (rv_move rfl) ?_
      obtain ⟨x23, hx24, h25⟩ := Option.bind_eq_some_iff.1 h21
      refine wl_val wn rfl (rv_sidx Try.underlying9 rfl rfl hx24) ?_
      obtain ⟨r26, hx27, h28⟩ := Option.bind_eq_some_iff.1 h25
      refine wl_call wn rfl (rt_call (vs := [iv8 x23]) co98 rfl) ((ok_impl_wordByte F) hS18.enter0  hx27) ?_
      rintro e32 w30 ⟨K29, rfl, hS31⟩
      refine ⟨_, rfl, ?_⟩
      have hS33 : SH _ _ _ _ _ [] := SH.call0 hS18 hS31
      refine wl_val wn rfl (rv_not rfl) ?_
      refine wl_nil ?_
      refine qe_seq ?_
      refine wc_cond rfl (fun hb34 => ?_) (fun hb34 => ?_)
      · have h35 := cond_t hb34 h28
        refine wc_seq ?_
        refine wc_region ?_
        refine wl_val wn rfl (rv_assign (v := .bool false) rfl) ?_
        refine wl_nil ?_
        refine qe_seq ?_
        refine wc_ret ?_
        refine qe_block_ret ?_
        refine qe_then_ret ?_
        refine qe_then_ret ?_
        obtain rfl := Option.some.inj h35
        have e36 := hx22 _ rfl
        subst e36
        refine qe_block_ret ?_
        refine qe_then_ret ?_
        obtain rfl := Option.some.inj h13
        refine qe_then_ret ?_
        obtain rfl := Option.some.inj h4
        exact qe_ret (vs := [_]) Try.results52 ⟨rfl, trivial⟩ ⟨K29, rfl, hS33⟩
      · have h35 := cond_f hb34 h28
        refine wc_skip ?_
        refine qe_block ?_
        refine qe_seq (wc_region ?_)
        refine wl_val wn rfl (rv_add_to rfl rfl (w64_succ hi20 hl1)) ?_
        refine wl_val wn rfl (rv_move rfl) ?_
        refine wl_nil ?_
        obtain rfl := Option.some.inj h35
        exact qe_mid' ⟨_, rfl, K29, rfl, hS33, (hl16.trans hS31.le)⟩ ⟨rfl, rfl, rfl, trivial⟩
    · rintro s10 _ w17 hr37 ⟨K15, rfl, hS18, hl16⟩
      subst hr37
      refine wc_seq (wc_region ?_)
      refine wl_val wn rfl (rv_lss rfl rfl) ?_
      refine wl_nil (qe_seq (wc_seq ?_))
      refine wc_cond_f rfl (decide_eq_false (by omega)) ?_
      refine wc_exit ?_
      refine qe_then_exit ?_
      refine qe_then_exit ?_
      refine qe_block_eq ?_
      obtain rfl := Option.some.inj h13
      exact qe_mid' ⟨_, K15, rfl, rfl, hS18, hl16⟩ ⟨rfl, trivial⟩
  · rintro _ w8 ⟨s5, K6, rfl, rfl, hS9, hl7⟩
    refine qe_seq ?_
    refine wc_seq ?_
    refine wc_region ?_
    refine wl_val wn rfl (rv_move rfl) ?_
    refine wl_val wn rfl (rv_slen Try.underlying9 rfl) ?_
    obtain ⟨r39, hx40, h41⟩ := Option.bind_eq_some_iff.1 h4
    refine wl_call wn rfl (rt_call (vs := [.int .i64 (p0_s.length : Int), .int .i64 1, .int .i64 12]) co72 rfl) ((ok_impl_within F) hS9.enter0 (rng_nat hl1) (by decide : rng64 1) (by decide : rng64 12) hx40) ?_
    rintro e45 w43 ⟨K42, rfl, hS44⟩
    refine ⟨_, rfl, ?_⟩
    have hS46 : SH _ _ _ _ _ [] := SH.call0 hS9 hS44
    refine wl_val wn rfl (rv_assign rfl) ?_
    refine wl_nil ?_
    refine qe_seq ?_
    refine wc_ret ?_
    obtain rfl := Option.some.inj h41
    exact qe_ret (vs := [_]) Try.results52 ⟨rfl, trivial⟩ ⟨K42, rfl, hS46⟩

theorem ok_impl_wordsAscend (F : Nat) {w : World} {K : KMap} {a1 : Option Addr} {n2 c3 : Nat} {p0_list : List Str} {r : Bool} (hS : SH w K [] w K []) (hs4 : SliceAt tStr K a1 n2 c3 p0_list) (hm : M.impl_wordsAscend F p0_list = some r) :
    Calls Try.prog 70 #[.slice a1 n2 c3] w fun e w' => ∃ (K' : KMap), e = .returned (.bool r) ∧ SH w K [] w' K' [] := by
  rw [M.impl_wordsAscend] at hm
  refine calls_in Try.func70 rfl Try.ntmps70 rfl ?_
  refine wc_seq ?_
  refine wc_region ?_
  refine wl_val wn rfl (rv_assign (v := .bool false) rfl) ?_
  refine wl_nil ?_
  refine qe_seq ?_
  refine wc_seq ?_
  refine wc_seq ?_
  refine wc_region ?_
  refine wl_val wn rfl (rv_move rfl) ?_
  refine wl_val wn rfl (rv_len (t := tStr) Try.underlying47 rfl hs4) ?_
  refine wl_val wn rfl (rv_move (v := .int .i64 0) rfl) ?_
  refine wl_nil ?_
  refine qe_seq ?_
  obtain ⟨o5, h6, h7⟩ := Option.bind_eq_some_iff.1 hm
  refine wc_cutg (fun E' w' => ∃ (s8 : Unit) (K9 : KMap), o5 = .inl s8 ∧ E' = [] ∧ SH w K [] w' K9 [] ∧ KLe K K9) ?_ ?_
  · refine wc_block ?_
    obtain ⟨r14, h15, h16⟩ := Option.bind_eq_some_iff.1 h6
    refine wc_for' (fun (i17 : Nat) (s13 : Unit) E' w' => ∃ (K18 : KMap), E' = [(0, .slice a1 n2 c3), (5, .slice a1 n2 c3), (6, .int .i64 (p0_list.length : Int)), (7, .int .i64 ((i17 : Nat) : Int))] ∧ SH w K [] w' K18 [] ∧ KLe K K18) h15 ⟨K, rfl, hS, (KLe.refl _)⟩ ⟨rfl, rfl, rfl, rfl, trivial⟩ ?_ ?_
    · rintro i17 s13 _ w20 r22 hi23 h24 hx25 ⟨K18, rfl, hS21, hl19⟩
      refine wc_seq (wc_region ?_)
      refine wl_val wn rfl (rv_lss rfl rfl) ?_
      refine wl_nil (qe_seq (wc_seq ?_))
      refine wc_cond_t rfl (decide_eq_true (by omega)) (wc_skip (qe_seq (wc_seq ?_)))
      refine wc_block ?_
      refine wc_seq ?_
      refine wc_region ?_
      refine wl_val wn rfl (rv_move rfl) ?_
      obtain ⟨x26, hx27, h28⟩ := Option.bind_eq_some_iff.1 h24
      refine wl_indexAddr (t := tStr) wn rfl Try.underlying47 tf9 rfl rfl (SliceAt.mono hl19 hs4) hx27 ?_
      intro b29 o30 u31 hu32 ha33
      obtain ⟨rfl, hl34⟩ := hu32
      have ha35 : AtK _ b29 o30 [sv x26] := ha33
      refine wl_val wn rfl (rv_load1 tf9 rfl hS21 (ha35 0 _ rfl)) ?_
      refine wl_val wn rfl (rv_assign rfl) ?_
      refine wl_val wn rfl (rv_assign rfl) ?_
      refine wl_nil ?_
      refine qe_seq ?_
      refine wc_seq ?_
      obtain ⟨o36, h37, h38⟩ := Option.bind_eq_some_iff.1 h28
      refine wc_cutg (fun E' w' => ∃ (K39 : KMap), E' = [(0, .slice a1 n2 c3), (5, .slice a1 n2 c3), (6, .int .i64 (p0_list.length : Int)), (7, .int .i64 ((i17 : Nat) : Int)), (27, .bool o36)] ∧ SH w K [] w' K39 [] ∧ KLe K18 K39) ?_ ?_
      · refine wc_region ?_
        refine wl_val wn rfl (rv_move rfl) ?_
        obtain ⟨r43, hx44, h45⟩ := Option.bind_eq_some_iff.1 h37
        refine wl_call wn rfl (rt_call (vs := [sv x26]) co52 rfl) ((ok_impl_WordOk F) hS21.enter0 hl34 hx44) ?_
        rintro e49 w47 ⟨K46, rfl, hS48⟩
        refine ⟨_, rfl, ?_⟩
        have hS50 : SH _ _ _ _ _ [] := SH.call0 hS21 hS48
        refine wl_val wn rfl (rv_not rfl) ?_
        refine wl_val wn rfl (rv_move rfl) ?_
        rcases bool_tf ((!r43)) with hb51 | hb51
        · have h52 := cond_t hb51 h45
          refine wl_un (ug rfl rfl hb51) rfl ?_
          refine wl_un (ug rfl rfl hb51) rfl ?_
          refine wl_un (ug rfl rfl hb51) rfl ?_
          refine wl_un (uu rfl rfl) rfl ?_
          refine wl_un (uu rfl rfl) rfl ?_
          refine wl_un (uu rfl rfl) rfl ?_
          refine wl_un (uu rfl rfl) rfl ?_
          refine wl_un (uu rfl rfl) rfl ?_
          refine wl_un (uu rfl rfl) rfl ?_
          refine wl_un (uu rfl rfl) rfl ?_
          refine wl_un (ug rfl rfl hb51) rfl ?_
          refine wl_val wn rfl (rv_pick_t (v := .bool true) rfl hb51 rfl) ?_
          refine wl_nil ?_
          obtain rfl := Option.some.inj h52
          exact qe_mid' ⟨K46, rfl, hS50, hS48.le⟩ ⟨rfl, rfl, rfl, rfl, rfl, trivial⟩
        · have h52 := cond_f hb51 h45
          refine wl_val (wg rfl rfl hb51) rfl (rv_move rfl) ?_
          refine wl_val (wg rfl rfl hb51) rfl (rv_gtr rfl rfl) ?_
          refine wl_val (wg rfl rfl hb51) rfl (rv_move rfl) ?_
          rcases bool_tf (decide ((0 : Int) < ((i17 : Nat) : Int))) with hb53 | hb53
          · have h54 := cond_t hb53 h52
            refine wl_val (wg rfl rfl hb53) rfl (rv_move rfl) ?_
            refine wl_val (wg rfl rfl hb53) rfl (rv_move rfl) ?_
            refine wl_val (wg rfl rfl hb53) rfl (rv_sub rfl rfl) ?_
            obtain ⟨x55, hx56, h57⟩ := Option.bind_eq_some_iff.1 h54
            refine wl_indexAddr (t := tStr) (wg rfl rfl hb53) rfl Try.underlying47 tf9 rfl rfl (SliceAt.mono (hl19.trans hS48.le) hs4) hx56 ?_
            intro b58 o59 u60 hu61 ha62
            obtain ⟨rfl, hl63⟩ := hu61
            have ha64 : AtK _ b58 o59 [sv x55] := ha62
            refine wl_val (wg rfl rfl hb53) rfl (rv_load1 tf9 rfl hS50 (ha64 0 _ rfl)) ?_
            refine wl_val (wg rfl rfl hb53) rfl (rv_move rfl) ?_
            refine wl_val (wg rfl rfl hb53) rfl (rv_sgeq rfl rfl) ?_
            refine wl_val (wg rfl rfl hb51) rfl (rv_pick_t rfl hb53 rfl) ?_
            refine wl_val wn rfl (rv_pick_f rfl hb51 rfl) ?_
            refine wl_nil ?_
            obtain rfl := Option.some.inj h57
            exact qe_mid' ⟨K46, rfl, hS50, hS48.le⟩ ⟨rfl, rfl, rfl, rfl, rfl, trivial⟩
          · have h54 := cond_f hb53 h52
            refine wl_un (ug rfl rfl hb53) rfl ?_
            refine wl_un (ug rfl rfl hb53) rfl ?_
            refine wl_un (ug rfl rfl hb53) rfl ?_
            refine wl_un (ug rfl rfl hb53) rfl ?_
            refine wl_un (ug rfl rfl hb53) rfl ?_
            refine wl_un (ug rfl rfl hb53) rfl ?_
            refine wl_un (ug rfl rfl hb53) rfl ?_
            refine wl_val (wg rfl rfl hb51) rfl (rv_pick_f (v := .bool false) rfl hb53 rfl) ?_
            refine wl_val wn rfl (rv_pick_f rfl hb51 rfl) ?_
            refine wl_nil ?_
            obtain rfl := Option.some.inj h54
            exact qe_mid' ⟨K46, rfl, hS50, hS48.le⟩ ⟨rfl, rfl, rfl, rfl, rfl, trivial⟩
      · rintro _ w41 ⟨K39, rfl, hS42, hl40⟩
        refine qe_seq ?_
        refine wc_cond rfl (fun hb65 => ?_) (fun hb65 => ?_)
        · have h66 := cond_t hb65 h38
          refine wc_seq ?_
          refine wc_region ?_
          refine wl_val wn rfl (rv_assign (v := .bool false) rfl) ?_
          refine wl_nil ?_
          refine qe_seq ?_
          refine wc_ret ?_
          refine qe_block_ret ?_
          refine qe_then_ret ?_
          refine qe_then_ret ?_
          obtain rfl := Option.some.inj h66
          have e67 := hx25 _ rfl
          subst e67
          refine qe_block_ret ?_
          refine qe_then_ret ?_
          obtain rfl := Option.some.inj h16
          refine qe_then_ret ?_
          obtain rfl := Option.some.inj h7
          exact qe_ret (vs := [_]) Try.results70 ⟨rfl, trivial⟩ ⟨K39, rfl, hS42⟩
        · have h66 := cond_f hb65 h38
          refine wc_skip ?_
          refine qe_block ?_
          refine qe_seq (wc_region ?_)
          refine wl_val wn rfl (rv_add_to rfl rfl (w64_succ hi23 (SliceAt.max hs4))) ?_
          refine wl_val wn rfl (rv_move rfl) ?_
          refine wl_nil ?_
          obtain rfl := Option.some.inj h66
          exact qe_mid' ⟨_, rfl, K39, rfl, hS42, (hl19.trans hl40)⟩ ⟨rfl, rfl, rfl, rfl, trivial⟩
    · rintro s13 _ w20 hr68 ⟨K18, rfl, hS21, hl19⟩
      subst hr68
      refine wc_seq (wc_region ?_)
      refine wl_val wn rfl (rv_lss rfl rfl) ?_
      refine wl_nil (qe_seq (wc_seq ?_))
      refine wc_cond_f rfl (decide_eq_false (by omega)) ?_
      refine wc_exit ?_
      refine qe_then_exit ?_
      refine qe_then_exit ?_
      refine qe_block_eq ?_
      obtain rfl := Option.some.inj h16
      exact qe_mid' ⟨_, K18, rfl, rfl, hS21, hl19⟩ trivial
  · rintro _ w11 ⟨s8, K9, rfl, rfl, hS12, hl10⟩
    refine qe_seq ?_
    refine wc_seq ?_
    refine wc_region ?_
    refine wl_val wn rfl (rv_assign (v := .bool true) rfl) ?_
    refine wl_nil ?_
    refine qe_seq ?_
    refine wc_ret ?_
    obtain rfl := Option.some.inj h7
    exact qe_ret (vs := [_]) Try.results70 ⟨rfl, trivial⟩ ⟨K9, rfl, hS12⟩

theorem ok_impl_WordsUp (F : Nat) {w : World} {K : KMap} {a1 : Option Addr} {n2 c3 : Nat} {p0_list : List Str} {r : Bool} (hS : SH w K [] w K []) (hs4 : SliceAt tStr K a1 n2 c3 p0_list) (hm : M.impl_WordsUp F p0_list = some r) :
    Calls Try.prog 26 #[.slice a1 n2 c3] w fun e w' => ∃ (K' : KMap), e = .returned (.bool r) ∧ SH w K [] w' K' [] := by
  rw [M.impl_WordsUp] at hm
  refine calls_in Try.func26 rfl Try.ntmps26 rfl ?_
  refine wc_seq ?_
  refine wc_region ?_
  refine wl_val wn rfl (rv_assign (v := .bool false) rfl) ?_
  refine wl_nil ?_
  refine qe_seq ?_
  refine wc_seq ?_
  refine wc_region ?_
  refine wl_val wn rfl (rv_move rfl) ?_
  refine wl_val wn rfl (rv_len (t := tStr) Try.underlying47 rfl hs4) ?_
  refine wl_val wn rfl (rv_leq rfl rfl) ?_
  refine wl_val wn rfl (rv_move rfl) ?_
  rcases bool_tf (decide ((p0_list.length : Int) ≤ (40 : Int))) with hb5 | hb5
  · have h6 := cond_t hb5 hm
    refine wl_val (wg rfl rfl hb5) rfl (rv_move rfl) ?_
    obtain ⟨r7, hx8, h9⟩ := Option.bind_eq_some_iff.1 h6
    refine wl_call (wg rfl rfl hb5) rfl (rt_call (vs := [.slice a1 n2 c3]) co70 rfl) ((ok_impl_wordsAscend F) hS.enter0 hs4 hx8) ?_
    rintro e13 w11 ⟨K10, rfl, hS12⟩
    refine ⟨_, rfl, ?_⟩
    have hS14 : SH _ _ _ _ _ [] := SH.call0 hS hS12
    refine wl_val wn rfl (rv_pick_t rfl hb5 rfl) ?_
    refine wl_val wn rfl (rv_assign rfl) ?_
    refine wl_nil ?_
    refine qe_seq ?_
    refine wc_ret ?_
    obtain rfl := Option.some.inj h9
    exact qe_ret (vs := [_]) Try.results26 ⟨rfl, trivial⟩ ⟨K10, rfl, hS14⟩
  · have h6 := cond_f hb5 hm
    refine wl_un (ug rfl rfl hb5) rfl ?_
    refine wl_un (ug rfl rfl hb5) rfl ?_
    refine wl_val wn rfl (rv_pick_f (v := .bool false) rfl hb5 rfl) ?_
    refine wl_val wn rfl (rv_assign rfl) ?_
    refine wl_nil ?_
    refine qe_seq ?_
    refine wc_ret ?_
    obtain rfl := Option.some.inj h6
    exact qe_ret (vs := [_]) Try.results26 ⟨rfl, trivial⟩ ⟨K, rfl, hS⟩

theorem ok_impl_GlobOk (F : Nat) {w : World} {K : KMap} {p0_p : Str} {r : Bool} (hS : SH w K [] w K []) (hl1 : p0_p.length ≤ maxLen) (hm : M.impl_GlobOk F p0_p = some r) :
    Calls Try.prog 65 #[sv p0_p] w fun e w' => ∃ (K' : KMap), e = .returned (.bool r) ∧ SH w K [] w' K' [] := by
  rw [M.impl_GlobOk] at hm
  refine calls_in Try.func65 rfl Try.ntmps65 rfl ?_
  refine wc_seq ?_
  refine wc_region ?_
  refine wl_val wn rfl (rv_assign (v := .bool false) rfl) ?_
  refine wl_nil ?_
  refine qe_seq ?_
  refine wc_seq ?_
  refine wc_seq ?_
  refine wc_region ?_
  refine wl_val wn rfl (rv_move rfl) ?_
  refine wl_val wn rfl (rv_slen Try.underlying9 rfl) ?_
  refine wl_val wn rfl (rv_move (v := .int .i64 0) rfl) ?_
  refine wl_nil ?_
  refine qe_seq ?_
  obtain ⟨o2, h3, h4⟩ := Option.bind_eq_some_iff.1 hm
  refine wc_cutg (fun E' w' => ∃ (s5 : Unit) (K6 : KMap), o2 = .inl s5 ∧ E' = [(0, sv p0_p)] ∧ SH w K [] w' K6 [] ∧ KLe K K6) ?_ ?_
  · refine wc_block ?_
    obtain ⟨r11, h12, h13⟩ := Option.bind_eq_some_iff.1 h3
    refine wc_for' (fun (i14 : Nat) (s10 : Unit) E' w' => ∃ (K15 : KMap), E' = [(0, sv p0_p), (5, .int .i64 (p0_p.length : Int)), (6, .int .i64 ((i14 : Nat) : Int))] ∧ SH w K [] w' K15 [] ∧ KLe K K15) h12 ⟨K, rfl, hS, (KLe.refl _)⟩ ⟨rfl, rfl, rfl, trivial⟩ ?_ ?_
    · rintro i14 s10 _ w17 r19 hi20 h21 hx22 ⟨K15, rfl, hS18, hl16⟩
      refine wc_seq (wc_region ?_)
      refine wl_val wn rfl (rv_lss rfl rfl) ?_
      refine wl_nil (qe_seq (wc_seq ?_))
      refine wc_cond_t rfl (decide_eq_true (by omega)) (wc_skip (qe_seq (wc_seq ?_)))
      refine wc_block ?_
      refine wc_seq ?_
      refine wc_region ?_
      refine wl_val wn rfl (rv_move rfl) ?_
      refine wl_val wn rfl (rv_assign rfl) ?_
      refine wl_nil ?_
      refine qe_seq ?_
      refine wc_seq ?_
      obtain ⟨o23, h24, h25⟩ := Option.bind_eq_some_iff.1 h21
      refine wc_cutg (fun E' w' => ∃ (K26 : KMap), E' = [(0, sv p0_p), (5, .int .i64 (p0_p.length : Int)), (6, .int .i64 ((i14 : Nat) : Int)), (25, .bool o23)] ∧ SH w K [] w' K26 [] ∧ KLe K15 K26) ?_ ?_
      · refine wc_region ?_
        refine wl_val wn rfl (rv_move rfl) ?_
        refine wl_val wn rfl (rv_move rfl) ?_
        obtain ⟨x30, hx31, h32⟩ := Option.bind_eq_some_iff.1 h24
        refine wl_val wn rfl (rv_sidx Try.underlying9 rfl rfl hx31) ?_
        obtain ⟨r33, hx34, h35⟩ := Option.bind_eq_some_iff.1 h32
        refine wl_call wn rfl (rt_call (vs := [iv8 x30]) co98 rfl) ((ok_impl_wordByte F) hS18.enter0  hx34) ?_
        rintro e39 w37 ⟨K36, rfl, hS38⟩
        refine ⟨_, rfl, ?_⟩
        have hS40 : SH _ _ _ _ _ [] := SH.call0 hS18 hS38
        refine wl_val wn rfl (rv_not rfl) ?_
        refine wl_val wn rfl (rv_move rfl) ?_
        rcases bool_tf ((!r33)) with hb41 | hb41
        · have h42 := cond_t hb41 h35
          refine wl_val (wg rfl rfl hb41) rfl (rv_move rfl) ?_
          refine wl_val (wg rfl rfl hb41) rfl (rv_move rfl) ?_
          obtain ⟨x43, hx44, h45⟩ := Option.bind_eq_some_iff.1 h42
          refine wl_val (wg rfl rfl hb41) rfl (rv_sidx Try.underlying9 rfl rfl hx44) ?_
          refine wl_val (wg rfl rfl hb41) rfl (rv_bne (b := (42 : UInt8)) rfl rfl) ?_
          refine wl_val wn rfl (rv_pick_t rfl hb41 rfl) ?_
          refine wl_val wn rfl (rv_move rfl) ?_
          rcases bool_tf ((!(x43 == (42 : UInt8)))) with hb46 | hb46
          · have h47 := cond_t hb46 h45
            refine wl_val (wg rfl rfl hb46) rfl (rv_move rfl) ?_
            refine wl_val (wg rfl rfl hb46) rfl (rv_move rfl) ?_
            obtain ⟨x48, hx49, h50⟩ := Option.bind_eq_some_iff.1 h47
            refine wl_val (wg rfl rfl hb46) rfl (rv_sidx Try.underlying9 rfl rfl hx49) ?_
            refine wl_val (wg rfl rfl hb46) rfl (rv_bne (b := (63 : UInt8)) rfl rfl) ?_
            refine wl_val wn rfl (rv_pick_t rfl hb46 rfl) ?_
            refine wl_nil ?_
            obtain rfl := Option.some.inj h50
            exact qe_mid' ⟨K36, rfl, hS40, hS38.le⟩ ⟨rfl, rfl, rfl, rfl, trivial⟩
          · have h47 := cond_f hb46 h45
            refine wl_un (ug rfl rfl hb46) rfl ?_
            refine wl_un (ug rfl rfl hb46) rfl ?_
            refine wl_un (ug rfl rfl hb46) rfl ?_
            refine wl_un (ug rfl rfl hb46) rfl ?_
            refine wl_val wn rfl (rv_pick_f (v := .bool false) rfl hb46 rfl) ?_
            refine wl_nil ?_
            obtain rfl := Option.some.inj h47
            exact qe_mid' ⟨K36, rfl, hS40, hS38.le⟩ ⟨rfl, rfl, rfl, rfl, trivial⟩
        · have h42 := cond_f hb41 h35
          refine wl_un (ug rfl rfl hb41) rfl ?_
          refine wl_un (ug rfl rfl hb41) rfl ?_
          refine wl_un (ug rfl rfl hb41) rfl ?_
          refine wl_un (ug rfl rfl hb41) rfl ?_
          refine wl_val wn rfl (rv_pick_f (v := .bool false) rfl hb41 rfl) ?_
          refine wl_val wn rfl (rv_move rfl) ?_
          refine wl_un (ug rfl rfl rfl) rfl ?_
          refine wl_un (ug rfl rfl rfl) rfl ?_
          refine wl_un (ug rfl rfl rfl) rfl ?_
          refine wl_un (ug rfl rfl rfl) rfl ?_
          refine wl_val wn rfl (rv_pick_f (v := .bool false) rfl rfl rfl) ?_
          refine wl_nil ?_
          obtain rfl := Option.some.inj h42
          exact qe_mid' ⟨K36, rfl, hS40, hS38.le⟩ ⟨rfl, rfl, rfl, rfl, trivial⟩
      · rintro _ w28 ⟨K26, rfl, hS29, hl27⟩
        refine qe_seq ?_
        refine wc_cond rfl (fun hb51 => ?_) (fun hb51 => ?_)
        · have h52 := cond_t hb51 h25
          refine wc_seq ?_
          refine wc_region ?_
          refine wl_val wn rfl (rv_assign (v := .bool false) rfl) ?_
          refine wl_nil ?_
          refine qe_seq ?_
          refine wc_ret ?_
          refine qe_block_ret ?_
          refine qe_then_ret ?_
          refine qe_then_ret ?_
          obtain rfl := Option.some.inj h52
          have e53 := hx22 _ rfl
          subst e53
          refine qe_block_ret ?_
          refine qe_then_ret ?_
          obtain rfl := Option.some.inj h13
          refine qe_then_ret ?_
          obtain rfl := Option.some.inj h4
          exact qe_ret (vs := [_]) Try.results65 ⟨rfl, trivial⟩ ⟨K26, rfl, hS29⟩
        · have h52 := cond_f hb51 h25
          refine wc_skip ?_
          refine qe_block ?_
          refine qe_seq (wc_region ?_)
          refine wl_val wn rfl (rv_add_to rfl rfl (w64_succ hi20 hl1)) ?_
          refine wl_val wn rfl (rv_move rfl) ?_
          refine wl_nil ?_
          obtain rfl := Option.some.inj h52
          exact qe_mid' ⟨_, rfl, K26, rfl, hS29, (hl16.trans hl27)⟩ ⟨rfl, rfl, rfl, trivial⟩
    · rintro s10 _ w17 hr54 ⟨K15, rfl, hS18, hl16⟩
      subst hr54
      refine wc_seq (wc_region ?_)
      refine wl_val wn rfl (rv_lss rfl rfl) ?_
      refine wl_nil (qe_seq (wc_seq ?_))
      refine wc_cond_f rfl (decide_eq_false (by omega)) ?_
      refine wc_exit ?_
      refine qe_then_exit ?_
      refine qe_then_exit ?_
      refine qe_block_eq ?_
      obtain rfl := Option.some.inj h13
      exact qe_mid' ⟨_, K15, rfl, rfl, hS18, hl16⟩ ⟨rfl, trivial⟩
  · rintro _ w8 ⟨s5, K6, rfl, rfl, hS9, hl7⟩
    refine qe_seq ?_
    refine wc_seq ?_
    refine wc_region ?_
    refine wl_val wn rfl (rv_move rfl) ?_
    refine wl_val wn rfl (rv_slen Try.underlying9 rfl) ?_
    obtain ⟨r56, hx57, h58⟩ := Option.bind_eq_some_iff.1 h4
    refine wl_call wn rfl (rt_call (vs := [.int .i64 (p0_p.length : Int), .int .i64 1, .int .i64 12]) co72 rfl) ((ok_impl_within F) hS9.enter0 (rng_nat hl1) (by decide : rng64 1) (by decide : rng64 12) hx57) ?_
    rintro e62 w60 ⟨K59, rfl, hS61⟩
    refine ⟨_, rfl, ?_⟩
    have hS63 : SH _ _ _ _ _ [] := SH.call0 hS9 hS61
    refine wl_val wn rfl (rv_assign rfl) ?_
    refine wl_nil ?_
    refine qe_seq ?_
    refine wc_ret ?_
    obtain rfl := Option.some.inj h58
    exact qe_ret (vs := [_]) Try.results65 ⟨rfl, trivial⟩ ⟨K59, rfl, hS63⟩

theorem ok_impl_globHas (F : Nat) : ∀ {w : World} {K : KMap} {p0_p : Str} {p1_s : Str} {r : Bool} (hS : SH w K [] w K []) (hl1 : p0_p.length ≤ maxLen) (hl2 : p1_s.length ≤ maxLen) (hm : M.impl_globHas F p0_p p1_s = some r),
    Calls Try.prog 106 #[sv p0_p, sv p1_s] w fun e w' => ∃ (K' : KMap), e = .returned (.bool r) ∧ SH w K [] w' K' [] := by
  induction F with
  | zero => intros; rename_i hm; rw [M.impl_globHas] at hm; cases hm
  | succ F ih =>
    intro w K p0_p p1_s r hS hl1 hl2 hm
    rw [M.impl_globHas] at hm
    refine calls_in Try.func106 rfl Try.ntmps106 rfl ?_
    refine wc_seq ?_
    refine wc_region ?_
    refine wl_val wn rfl (rv_assign (v := .bool false) rfl) ?_
    refine wl_nil ?_
    refine qe_seq ?_
    refine wc_seq ?_
    refine wc_block ?_
    refine wc_seq ?_
    refine wc_region ?_
    refine wl_val wn rfl (rv_move rfl) ?_
    refine wl_val wn rfl (rv_seql (r := ([] : Str)) rfl rfl) ?_
    refine wl_val wn rfl (rv_assign rfl) ?_
    refine wl_nil ?_
    refine qe_seq ?_
    refine wc_cond rfl (fun hb3 => ?_) (fun hb3 => ?_)
    · have h4 := cond_t hb3 hm
      refine wc_seq ?_
      refine wc_region ?_
      refine wl_val wn rfl (rv_move rfl) ?_
      refine wl_val wn rfl (rv_seql (r := ([] : Str)) rfl rfl) ?_
      refine wl_val wn rfl (rv_assign rfl) ?_
      refine wl_nil ?_
      refine qe_seq ?_
      refine wc_ret ?_
      refine qe_block_ret ?_
      refine qe_then_ret ?_
      obtain rfl := Option.some.inj h4
      exact qe_ret (vs := [_]) Try.results106 ⟨rfl, trivial⟩ ⟨K, rfl, hS⟩
    · have h4 := cond_f hb3 hm
      refine wc_seq ?_
      refine wc_region ?_
      refine wl_val wn rfl (rv_move rfl) ?_
      obtain ⟨x5, hx6, h7⟩ := Option.bind_eq_some_iff.1 h4
      refine wl_val wn rfl (rv_sidx Try.underlying9 rfl rfl hx6) ?_
      refine wl_val wn rfl (rv_beq (b := (42 : UInt8)) rfl rfl) ?_
      refine wl_val wn rfl (rv_assign rfl) ?_
      refine wl_nil ?_
      refine qe_seq ?_
      refine wc_cond rfl (fun hb8 => ?_) (fun hb8 => ?_)
      · have h9 := cond_t hb8 h7
        refine wc_seq ?_
        obtain ⟨o10, h11, h12⟩ := Option.bind_eq_some_iff.1 h9
        refine wc_cutg (fun E' w' => ∃ (K13 : KMap), E' = [(4, .bool o10)] ∧ SH w K [] w' K13 [] ∧ KLe K K13) ?_ ?_
        · refine wc_region ?_
          refine wl_val wn rfl (rv_move rfl) ?_
          obtain ⟨x17, hx18, h19⟩ := Option.bind_eq_some_iff.1 h11
          refine wl_val wn rfl (rv_ssl_l Try.underlying9 rfl rfl hx18) ?_
          refine wl_val wn rfl (rv_move rfl) ?_
          obtain ⟨r20, hx21, h22⟩ := Option.bind_eq_some_iff.1 h19
          refine wl_call wn rfl (rt_call (vs := [sv x17, sv p1_s]) co106 rfl) (ih hS.enter0 (len_sub hl1 hx18) hl2 hx21) ?_
          rintro e26 w24 ⟨K23, rfl, hS25⟩
          refine ⟨_, rfl, ?_⟩
          have hS27 : SH _ _ _ _ _ [] := SH.call0 hS hS25
          refine wl_val wn rfl (rv_move rfl) ?_
          rcases bool_tf (r20) with hb28 | hb28
          · have h29 := cond_t hb28 h22
            refine wl_un (ug rfl rfl hb28) rfl ?_
            refine wl_un (ug rfl rfl hb28) rfl ?_
            refine wl_un (ug rfl rfl hb28) rfl ?_
            refine wl_un (uu rfl rfl) rfl ?_
            refine wl_un (uu rfl rfl) rfl ?_
            refine wl_un (uu rfl rfl) rfl ?_
            refine wl_un (uu rfl rfl) rfl ?_
            refine wl_un (ug rfl rfl hb28) rfl ?_
            refine wl_val wn rfl (rv_pick_t (v := .bool true) rfl hb28 rfl) ?_
            refine wl_val wn rfl (rv_assign rfl) ?_
            refine wl_nil ?_
            obtain rfl := Option.some.inj h29
            exact qe_mid' ⟨K23, rfl, hS27, hS25.le⟩ ⟨rfl, trivial⟩
          · have h29 := cond_f hb28 h22
            refine wl_val (wg rfl rfl hb28) rfl (rv_move rfl) ?_
            refine wl_val (wg rfl rfl hb28) rfl (rv_sneq (r := ([] : Str)) rfl rfl) ?_
            refine wl_val (wg rfl rfl hb28) rfl (rv_move rfl) ?_
            rcases bool_tf ((!(p1_s == ([] : Str)))) with hb30 | hb30
            · have h31 := cond_t hb30 h29
              refine wl_val (wg rfl rfl hb30) rfl (rv_move rfl) ?_
              refine wl_val (wg rfl rfl hb30) rfl (rv_move rfl) ?_
              obtain ⟨x32, hx33, h34⟩ := Option.bind_eq_some_iff.1 h31
              refine wl_val (wg rfl rfl hb30) rfl (rv_ssl_l Try.underlying9 rfl rfl hx33) ?_
              obtain ⟨r35, hx36, h37⟩ := Option.bind_eq_some_iff.1 h34
              refine wl_call (wg rfl rfl hb30) rfl (rt_call (vs := [sv p0_p, sv x32]) co106 rfl) (ih hS27.enter0 hl1 (len_sub hl2 hx33) hx36) ?_
              rintro e41 w39 ⟨K38, rfl, hS40⟩
              refine ⟨_, rfl, ?_⟩
              have hS42 : SH _ _ _ _ _ [] := SH.call0 hS27 hS40
              refine wl_val (wg rfl rfl hb28) rfl (rv_pick_t rfl hb30 rfl) ?_
              refine wl_val wn rfl (rv_pick_f rfl hb28 rfl) ?_
              refine wl_val wn rfl (rv_assign rfl) ?_
              refine wl_nil ?_
              obtain rfl := Option.some.inj h37
              exact qe_mid' ⟨K38, rfl, hS42, (hS25.le.trans hS40.le)⟩ ⟨rfl, trivial⟩
            · have h31 := cond_f hb30 h29
              refine wl_un (ug rfl rfl hb30) rfl ?_
              refine wl_un (ug rfl rfl hb30) rfl ?_
              refine wl_un (ug rfl rfl hb30) rfl ?_
              refine wl_un (ug rfl rfl hb30) rfl ?_
              refine wl_val (wg rfl rfl hb28) rfl (rv_pick_f (v := .bool false) rfl hb30 rfl) ?_
              refine wl_val wn rfl (rv_pick_f rfl hb28 rfl) ?_
              refine wl_val wn rfl (rv_assign rfl) ?_
              refine wl_nil ?_
              obtain rfl := Option.some.inj h31
              exact qe_mid' ⟨K23, rfl, hS27, hS25.le⟩ ⟨rfl, trivial⟩
        · rintro _ w15 ⟨K13, rfl, hS16, hl14⟩
          refine qe_seq ?_
          refine wc_ret ?_
          refine qe_block_ret ?_
          refine qe_then_ret ?_
          obtain rfl := Option.some.inj h12
          exact qe_ret (vs := [_]) Try.results106 ⟨rfl, trivial⟩ ⟨K13, rfl, hS16⟩
      · have h9 := cond_f hb8 h7
        refine wc_seq ?_
        refine wc_region ?_
        refine wl_val wn rfl (rv_move rfl) ?_
        refine wl_val wn rfl (rv_seql (r := ([] : Str)) rfl rfl) ?_
        refine wl_val wn rfl (rv_assign rfl) ?_
        refine wl_nil ?_
        refine qe_seq ?_
        refine wc_cond rfl (fun hb43 => ?_) (fun hb43 => ?_)
        · have h44 := cond_t hb43 h9
          refine wc_seq ?_
          refine wc_region ?_
          refine wl_val wn rfl (rv_assign (v := .bool false) rfl) ?_
          refine wl_nil ?_
          refine qe_seq ?_
          refine wc_ret ?_
          refine qe_block_ret ?_
          refine qe_then_ret ?_
          obtain rfl := Option.some.inj h44
          exact qe_ret (vs := [_]) Try.results106 ⟨rfl, trivial⟩ ⟨K, rfl, hS⟩
        · have h44 := cond_f hb43 h9
          refine wc_skip ?_
          refine qe_block ?_
          refine qe_seq ?_
          refine wc_seq ?_
          refine wc_quiet mixed (by kernel_rfl) hS ?_
          refine wq_val wn rfl (fun _ _ => (rv_move rfl)) ?_
          obtain ⟨x45, hx46, h47⟩ := Option.bind_eq_some_iff.1 h44
          refine wq_val wn rfl (fun _ _ => (rv_sidx Try.underlying9 rfl rfl hx46)) ?_
          refine wq_val wn rfl (fun _ _ => (rv_beq (b := (63 : UInt8)) rfl rfl)) ?_
          refine wq_val wn rfl (fun _ _ => (rv_move rfl)) ?_
          rcases bool_tf ((x45 == (63 : UInt8))) with hb48 | hb48
          · have h49 := cond_t hb48 h47
            refine wq_un (ug rfl rfl hb48) rfl ?_
            refine wq_un (ug rfl rfl hb48) rfl ?_
            refine wq_un (ug rfl rfl hb48) rfl ?_
            refine wq_un (ug rfl rfl hb48) rfl ?_
            refine wq_un (ug rfl rfl hb48) rfl ?_
            refine wq_val wn rfl (fun _ _ => (rv_pick_t (v := .bool true) rfl hb48 rfl)) ?_
            refine wq_val wn rfl (fun _ _ => (rv_move rfl)) ?_
            refine wq_val (wg rfl rfl rfl) rfl (fun _ _ => (rv_move rfl)) ?_
            obtain ⟨x50, hx51, h52⟩ := Option.bind_eq_some_iff.1 h49
            refine wq_val (wg rfl rfl rfl) rfl (fun _ _ => (rv_ssl_l Try.underlying9 rfl rfl hx51)) ?_
            refine wq_val (wg rfl rfl rfl) rfl (fun _ _ => (rv_move rfl)) ?_
            obtain ⟨x53, hx54, h55⟩ := Option.bind_eq_some_iff.1 h52
            refine wq_val (wg rfl rfl rfl) rfl (fun _ _ => (rv_ssl_l Try.underlying9 rfl rfl hx54)) ?_
            obtain ⟨r56, hx57, h58⟩ := Option.bind_eq_some_iff.1 h55
            refine wq_call (v := .bool r56) (wg rfl rfl rfl) rfl (fun _ => rt_call (vs := [sv x50, sv x53]) co106 rfl) (fun w61 ⟨K59, hS60, hl62⟩ => (ih hS60.enter0 (len_sub hl1 hx51) (len_sub hl2 hx54) hx57).mono fun e w' ⟨K', he, hS'⟩ => ⟨he, K', hS60.call0 hS', hl62.trans hS'.le⟩) ?_
            refine wq_val wn rfl (fun _ _ => (rv_pick_t rfl rfl rfl)) ?_
            refine wq_val wn rfl (fun _ _ => (rv_assign rfl)) ?_
            refine wq_nil ?_
            rintro w64 ⟨K63, hS65, hl66⟩
            refine qe_seq ?_
            refine wc_ret ?_
            obtain rfl := Option.some.inj h58
            exact qe_ret (vs := [_]) Try.results106 ⟨rfl, trivial⟩ ⟨K63, rfl, hS65⟩
          · have h49 := cond_f hb48 h47
            refine wq_val (wg rfl rfl hb48) rfl (fun _ _ => (rv_move rfl)) ?_
            obtain ⟨x67, hx68, h69⟩ := Option.bind_eq_some_iff.1 h49
            refine wq_val (wg rfl rfl hb48) rfl (fun _ _ => (rv_sidx Try.underlying9 rfl rfl hx68)) ?_
            refine wq_val (wg rfl rfl hb48) rfl (fun _ _ => (rv_move rfl)) ?_
            obtain ⟨x70, hx71, h72⟩ := Option.bind_eq_some_iff.1 h69
            refine wq_val (wg rfl rfl hb48) rfl (fun _ _ => (rv_sidx Try.underlying9 rfl rfl hx71)) ?_
            refine wq_val (wg rfl rfl hb48) rfl (fun _ _ => (rv_beq rfl rfl)) ?_
            refine wq_val wn rfl (fun _ _ => (rv_pick_f rfl hb48 rfl)) ?_
            refine wq_val wn rfl (fun _ _ => (rv_move rfl)) ?_
            rcases bool_tf ((x67 == x70)) with hb73 | hb73
            · have h74 := cond_t hb73 h72
              refine wq_val (wg rfl rfl hb73) rfl (fun _ _ => (rv_move rfl)) ?_
              obtain ⟨x75, hx76, h77⟩ := Option.bind_eq_some_iff.1 h74
              refine wq_val (wg rfl rfl hb73) rfl (fun _ _ => (rv_ssl_l Try.underlying9 rfl rfl hx76)) ?_
              refine wq_val (wg rfl rfl hb73) rfl (fun _ _ => (rv_move rfl)) ?_
              obtain ⟨x78, hx79, h80⟩ := Option.bind_eq_some_iff.1 h77
              refine wq_val (wg rfl rfl hb73) rfl (fun _ _ => (rv_ssl_l Try.underlying9 rfl rfl hx79)) ?_
              obtain ⟨r81, hx82, h83⟩ := Option.bind_eq_some_iff.1 h80
              refine wq_call (v := .bool r81) (wg rfl rfl hb73) rfl (fun _ => rt_call (vs := [sv x75, sv x78]) co106 rfl) (fun w86 ⟨K84, hS85, hl87⟩ => (ih hS85.enter0 (len_sub hl1 hx76) (len_sub hl2 hx79) hx82).mono fun e w' ⟨K', he, hS'⟩ => ⟨he, K', hS85.call0 hS', hl87.trans hS'.le⟩) ?_
              refine wq_val wn rfl (fun _ _ => (rv_pick_t rfl hb73 rfl)) ?_
              refine wq_val wn rfl (fun _ _ => (rv_assign rfl)) ?_
              refine wq_nil ?_
              rintro w89 ⟨K88, hS90, hl91⟩
              refine qe_seq ?_
              refine wc_ret ?_
              obtain rfl := Option.some.inj h83
              exact qe_ret (vs := [_]) Try.results106 ⟨rfl, trivial⟩ ⟨K88, rfl, hS90⟩
            · have h74 := cond_f hb73 h72
              refine wq_un (ug rfl rfl hb73) rfl ?_
              refine wq_un (ug rfl rfl hb73) rfl ?_
              refine wq_un (ug rfl rfl hb73) rfl ?_
              refine wq_un (ug rfl rfl hb73) rfl ?_
              refine wq_un (ug rfl rfl hb73) rfl ?_
              refine wq_val wn rfl (fun _ _ => (rv_pick_f (v := .bool false) rfl hb73 rfl)) ?_
              refine wq_val wn rfl (fun _ _ => (rv_assign rfl)) ?_
              refine wq_nil ?_
              rintro w93 ⟨K92, hS94, hl95⟩
              refine qe_seq ?_
              refine wc_ret ?_
              obtain rfl := Option.some.inj h74
              exact qe_ret (vs := [_]) Try.results106 ⟨rfl, trivial⟩ ⟨K92, rfl, hS94⟩
end Go.Proofs.Ytajfhpaokbgmeaa
