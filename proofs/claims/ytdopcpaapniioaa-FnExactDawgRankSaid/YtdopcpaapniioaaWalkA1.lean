/-
  Walks of the functions. Printed by gen.py.
-/
import Derived.Test.YtdopcpaapniioaaWalkA0
set_option linter.unusedVariables false
namespace Go.Proofs.Ytdopcpaapniioaa
open Go Go.Fk Go.RowKit

theorem ok_impl_wordByte (F : Nat) {w : World} {K : KMap} {p0_b : UInt8} {r : Bool} (hS : SH w K [] w K []) (hm : M.impl_wordByte F p0_b = some r) :
    Calls Try.prog 93 #[iv8 p0_b] w fun e w' => ∃ (K' : KMap), e = .returned (.bool r) ∧ SH w K [] w' K' [] := by
  rw [M.impl_wordByte] at hm
  refine calls_in Try.func93 rfl Try.ntmps93 rfl ?_
  refine wc_seq ?_
  refine wc_region ?_
  refine wl_val wn rfl (rv_assign (v := .bool false) rfl) ?_
  refine wl_nil ?_
  refine qe_seq ?_
  refine wc_seq ?_
  refine wc_region ?_
  refine wl_val wn rfl (rv_move rfl) ?_
  refine wl_val wn rfl (rv_bge (b := (97 : UInt8)) rfl rfl) ?_
  refine wl_val wn rfl (rv_move rfl) ?_
  rcases bool_tf (decide ((97 : UInt8) ≤ p0_b)) with hb1 | hb1
  · have h2 := cond_t hb1 hm
    refine wl_val (wg rfl rfl hb1) rfl (rv_move rfl) ?_
    refine wl_val (wg rfl rfl hb1) rfl (rv_ble (b := (122 : UInt8)) rfl rfl) ?_
    refine wl_val wn rfl (rv_pick_t rfl hb1 rfl) ?_
    refine wl_val wn rfl (rv_move rfl) ?_
    rcases bool_tf (decide (p0_b ≤ (122 : UInt8))) with hb3 | hb3
    · have h4 := cond_t hb3 h2
      refine wl_un (ug rfl rfl hb3) rfl ?_
      refine wl_un (ug rfl rfl hb3) rfl ?_
      refine wl_un (ug rfl rfl hb3) rfl ?_
      refine wl_un (uu rfl rfl) rfl ?_
      refine wl_un (uu rfl rfl) rfl ?_
      refine wl_un (ug rfl rfl hb3) rfl ?_
      refine wl_val wn rfl (rv_pick_t (v := .bool true) rfl hb3 rfl) ?_
      refine wl_val wn rfl (rv_assign rfl) ?_
      refine wl_nil ?_
      refine qe_seq ?_
      refine wc_ret ?_
      obtain rfl := Option.some.inj h4
      exact qe_ret (vs := [_]) Try.results93 ⟨rfl, trivial⟩ ⟨K, rfl, hS⟩
    · have h4 := cond_f hb3 h2
      refine wl_val (wg rfl rfl hb3) rfl (rv_move rfl) ?_
      refine wl_val (wg rfl rfl hb3) rfl (rv_bge (b := (48 : UInt8)) rfl rfl) ?_
      refine wl_val (wg rfl rfl hb3) rfl (rv_move rfl) ?_
      rcases bool_tf (decide ((48 : UInt8) ≤ p0_b)) with hb5 | hb5
      · have h6 := cond_t hb5 h4
        refine wl_val (wg rfl rfl hb5) rfl (rv_move rfl) ?_
        refine wl_val (wg rfl rfl hb5) rfl (rv_ble (b := (57 : UInt8)) rfl rfl) ?_
        refine wl_val (wg rfl rfl hb3) rfl (rv_pick_t rfl hb5 rfl) ?_
        refine wl_val wn rfl (rv_pick_f rfl hb3 rfl) ?_
        refine wl_val wn rfl (rv_assign rfl) ?_
        refine wl_nil ?_
        refine qe_seq ?_
        refine wc_ret ?_
        obtain rfl := Option.some.inj h6
        exact qe_ret (vs := [_]) Try.results93 ⟨rfl, trivial⟩ ⟨K, rfl, hS⟩
      · have h6 := cond_f hb5 h4
        refine wl_un (ug rfl rfl hb5) rfl ?_
        refine wl_un (ug rfl rfl hb5) rfl ?_
        refine wl_val (wg rfl rfl hb3) rfl (rv_pick_f (v := .bool false) rfl hb5 rfl) ?_
        refine wl_val wn rfl (rv_pick_f rfl hb3 rfl) ?_
        refine wl_val wn rfl (rv_assign rfl) ?_
        refine wl_nil ?_
        refine qe_seq ?_
        refine wc_ret ?_
        obtain rfl := Option.some.inj h6
        exact qe_ret (vs := [_]) Try.results93 ⟨rfl, trivial⟩ ⟨K, rfl, hS⟩
  · have h2 := cond_f hb1 hm
    refine wl_un (ug rfl rfl hb1) rfl ?_
    refine wl_un (ug rfl rfl hb1) rfl ?_
    refine wl_val wn rfl (rv_pick_f (v := .bool false) rfl hb1 rfl) ?_
    refine wl_val wn rfl (rv_move rfl) ?_
    refine wl_val (wg rfl rfl rfl) rfl (rv_move rfl) ?_
    refine wl_val (wg rfl rfl rfl) rfl (rv_bge (b := (48 : UInt8)) rfl rfl) ?_
    refine wl_val (wg rfl rfl rfl) rfl (rv_move rfl) ?_
    rcases bool_tf (decide ((48 : UInt8) ≤ p0_b)) with hb7 | hb7
    · have h8 := cond_t hb7 h2
      refine wl_val (wg rfl rfl hb7) rfl (rv_move rfl) ?_
      refine wl_val (wg rfl rfl hb7) rfl (rv_ble (b := (57 : UInt8)) rfl rfl) ?_
      refine wl_val (wg rfl rfl rfl) rfl (rv_pick_t rfl hb7 rfl) ?_
      refine wl_val wn rfl (rv_pick_f rfl rfl rfl) ?_
      refine wl_val wn rfl (rv_assign rfl) ?_
      refine wl_nil ?_
      refine qe_seq ?_
      refine wc_ret ?_
      obtain rfl := Option.some.inj h8
      exact qe_ret (vs := [_]) Try.results93 ⟨rfl, trivial⟩ ⟨K, rfl, hS⟩
    · have h8 := cond_f hb7 h2
      refine wl_un (ug rfl rfl hb7) rfl ?_
      refine wl_un (ug rfl rfl hb7) rfl ?_
      refine wl_val (wg rfl rfl rfl) rfl (rv_pick_f (v := .bool false) rfl hb7 rfl) ?_
      refine wl_val wn rfl (rv_pick_f rfl rfl rfl) ?_
      refine wl_val wn rfl (rv_assign rfl) ?_
      refine wl_nil ?_
      refine qe_seq ?_
      refine wc_ret ?_
      obtain rfl := Option.some.inj h8
      exact qe_ret (vs := [_]) Try.results93 ⟨rfl, trivial⟩ ⟨K, rfl, hS⟩

theorem ok_impl_WordOk (F : Nat) {w : World} {K : KMap} {p0_s : Str} {r : Bool} (hS : SH w K [] w K []) (hl1 : p0_s.length ≤ maxLen) (hm : M.impl_WordOk F p0_s = some r) :
    Calls Try.prog 80 #[sv p0_s] w fun e w' => ∃ (K' : KMap), e = .returned (.bool r) ∧ SH w K [] w' K' [] := by
  rw [M.impl_WordOk] at hm
  refine calls_in Try.func80 rfl Try.ntmps80 rfl ?_
  refine wc_seq ?_
  refine wc_region ?_
  refine wl_val wn rfl (rv_assign (v := .bool false) rfl) ?_
  refine wl_nil ?_
  refine qe_seq ?_
  refine wc_seq ?_
  refine wc_seq ?_
  refine wc_region ?_
  refine wl_val wn rfl (rv_move rfl) ?_
  refine wl_val wn rfl (rv_slen Try.underlying9 rfl) ?_
  refine wl_val wn rfl (rv_move (v := .int .i64 0) rfl) ?_
  refine wl_nil ?_
  refine qe_seq ?_
  obtain ⟨o2, h3, h4⟩ := Option.bind_eq_some_iff.1 hm
  refine wc_cutg (fun E' w' => ∃ (s5 : Unit) (K6 : KMap), o2 = .inl s5 ∧ E' = [(0, sv p0_s)] ∧ SH w K [] w' K6 [] ∧ KLe K K6) ?_ ?_
  · refine wc_block ?_
    obtain ⟨r11, h12, h13⟩ := Option.bind_eq_some_iff.1 h3
    refine wc_for' (fun (i14 : Nat) (s10 : Unit) E' w' => ∃ (K15 : KMap), E' = [(0, sv p0_s), (5, .int .i64 (p0_s.length : Int)), (6, .int .i64 ((i14 : Nat) : Int))] ∧ SH w K [] w' K15 [] ∧ KLe K K15) h12 ⟨K, rfl, hS, (KLe.refl _)⟩ ⟨rfl, rfl, rfl, trivial⟩ ?_ ?_
    · rintro i14 s10 _ w17 r19 hi20 h21 hx22 ⟨K15, rfl, hS18, hl16⟩
      refine wc_seq (wc_region ?_)
      refine wl_val wn rfl (rv_lss rfl rfl) ?_
      refine wl_nil (qe_seq (wc_seq ?_))
      refine wc_cond_t rfl (decide_eq_true (by omega)) (wc_skip (qe_seq (wc_seq ?_)))
      refine wc_block ?_
      refine wc_seq ?_
      refine wc_region ?_
      refine wl_val wn rfl (rv_move rfl) ?_
      refine wl_val wn rfl (rv_assign rfl) ?_
      refine wl_nil ?_
      refine qe_seq ?_
      refine wc_seq ?_
      refine wc_region ?_
      refine wl_val wn rfl (rv_move rfl) ?_
      refine wl_val wn rfl (rv_move rfl) ?_
      obtain ⟨x23, hx24, h25⟩ := Option.bind_eq_some_iff.1 h21
      refine wl_val wn rfl (rv_sidx Try.underlying9 rfl rfl hx24) ?_
      obtain ⟨r26, hx27, h28⟩ := Option.bind_eq_some_iff.1 h25
      refine wl_call wn rfl (rt_call (vs := [iv8 x23]) co93 rfl) ((ok_impl_wordByte F) hS18.enter0  hx27) ?_
      rintro e32 w30 ⟨K29, rfl, hS31⟩
      refine ⟨_, rfl, ?_⟩
      have hS33 : SH _ _ _ _ _ [] := SH.call0 hS18 hS31
      refine wl_val wn rfl (rv_not rfl) ?_
      refine wl_nil ?_
      refine qe_seq ?_
      refine wc_cond rfl (fun hb34 => ?_) (fun hb34 => ?_)
      · have h35 := cond_t hb34 h28
        refine wc_seq ?_
        refine wc_region ?_
        refine wl_val wn rfl (rv_assign (v := .bool false) rfl) ?_
        refine wl_nil ?_
        refine qe_seq ?_
        refine wc_ret ?_
        refine qe_block_ret ?_
        refine qe_then_ret ?_
        refine qe_then_ret ?_
        obtain rfl := Option.some.inj h35
        have e36 := hx22 _ rfl
        subst e36
        refine qe_block_ret ?_
        refine qe_then_ret ?_
        obtain rfl := Option.some.inj h13
        refine qe_then_ret ?_
        obtain rfl := Option.some.inj h4
        exact qe_ret (vs := [_]) Try.results80 ⟨rfl, trivial⟩ ⟨K29, rfl, hS33⟩
      · have h35 := cond_f hb34 h28
        refine wc_skip ?_
        refine qe_block ?_
        refine qe_seq (wc_region ?_)
        refine wl_val wn rfl (rv_add_to rfl rfl (w64_succ hi20 hl1)) ?_
        refine wl_val wn rfl (rv_move rfl) ?_
        refine wl_nil ?_
        obtain rfl := Option.some.inj h35
        exact qe_mid' ⟨_, rfl, K29, rfl, hS33, (hl16.trans hS31.le)⟩ ⟨rfl, rfl, rfl, trivial⟩
    · rintro s10 _ w17 hr37 ⟨K15, rfl, hS18, hl16⟩
      subst hr37
      refine wc_seq (wc_region ?_)
      refine wl_val wn rfl (rv_lss rfl rfl) ?_
      refine wl_nil (qe_seq (wc_seq ?_))
      refine wc_cond_f rfl (decide_eq_false (by omega)) ?_
      refine wc_exit ?_
      refine qe_then_exit ?_
      refine qe_then_exit ?_
      refine qe_block_eq ?_
      obtain rfl := Option.some.inj h13
      exact qe_mid' ⟨_, K15, rfl, rfl, hS18, hl16⟩ ⟨rfl, trivial⟩
  · rintro _ w8 ⟨s5, K6, rfl, rfl, hS9, hl7⟩
    refine qe_seq ?_
    refine wc_seq ?_
    refine wc_region ?_
    refine wl_val wn rfl (rv_move rfl) ?_
    refine wl_val wn rfl (rv_slen Try.underlying9 rfl) ?_
    obtain ⟨r39, hx40, h41⟩ := Option.bind_eq_some_iff.1 h4
    refine wl_call wn rfl (rt_call (vs := [.int .i64 (p0_s.length : Int), .int .i64 1, .int .i64 12]) co67 rfl) ((ok_impl_within F) hS9.enter0 (rng_nat hl1) (by decide : rng64 1) (by decide : rng64 12) hx40) ?_
    rintro e45 w43 ⟨K42, rfl, hS44⟩
    refine ⟨_, rfl, ?_⟩
    have hS46 : SH _ _ _ _ _ [] := SH.call0 hS9 hS44
    refine wl_val wn rfl (rv_assign rfl) ?_
    refine wl_nil ?_
    refine qe_seq ?_
    refine wc_ret ?_
    obtain rfl := Option.some.inj h41
    exact qe_ret (vs := [_]) Try.results80 ⟨rfl, trivial⟩ ⟨K42, rfl, hS46⟩

theorem ok_impl_wordsAscend (F : Nat) {w : World} {K : KMap} {a1 : Option Addr} {n2 c3 : Nat} {p0_list : List Str} {r : Bool} (hS : SH w K [] w K []) (hs4 : SliceAt tStr K a1 n2 c3 p0_list) (hm : M.impl_wordsAscend F p0_list = some r) :
    Calls Try.prog 62 #[.slice a1 n2 c3] w fun e w' => ∃ (K' : KMap), e = .returned (.bool r) ∧ SH w K [] w' K' [] := by
  rw [M.impl_wordsAscend] at hm
  refine calls_in Try.func62 rfl Try.ntmps62 rfl ?_
  refine wc_seq ?_
  refine wc_region ?_
  refine wl_val wn rfl (rv_assign (v := .bool false) rfl) ?_
  refine wl_nil ?_
  refine qe_seq ?_
  refine wc_seq ?_
  refine wc_seq ?_
  refine wc_region ?_
  refine wl_val wn rfl (rv_move rfl) ?_
  refine wl_val wn rfl (rv_len (t := tStr) Try.underlying26 rfl hs4) ?_
  refine wl_val wn rfl (rv_move (v := .int .i64 0) rfl) ?_
  refine wl_nil ?_
  refine qe_seq ?_
  obtain ⟨o5, h6, h7⟩ := Option.bind_eq_some_iff.1 hm
  refine wc_cutg (fun E' w' => ∃ (s8 : Unit) (K9 : KMap), o5 = .inl s8 ∧ E' = [] ∧ SH w K [] w' K9 [] ∧ KLe K K9) ?_ ?_
  · refine wc_block ?_
    obtain ⟨r14, h15, h16⟩ := Option.bind_eq_some_iff.1 h6
    refine wc_for' (fun (i17 : Nat) (s13 : Unit) E' w' => ∃ (K18 : KMap), E' = [(0, .slice a1 n2 c3), (5, .slice a1 n2 c3), (6, .int .i64 (p0_list.length : Int)), (7, .int .i64 ((i17 : Nat) : Int))] ∧ SH w K [] w' K18 [] ∧ KLe K K18) h15 ⟨K, rfl, hS, (KLe.refl _)⟩ ⟨rfl, rfl, rfl, rfl, trivial⟩ ?_ ?_
    · rintro i17 s13 _ w20 r22 hi23 h24 hx25 ⟨K18, rfl, hS21, hl19⟩
      refine wc_seq (wc_region ?_)
      refine wl_val wn rfl (rv_lss rfl rfl) ?_
      refine wl_nil (qe_seq (wc_seq ?_))
      refine wc_cond_t rfl (decide_eq_true (by omega)) (wc_skip (qe_seq (wc_seq ?_)))
      refine wc_block ?_
      refine wc_seq ?_
      refine wc_region ?_
      refine wl_val wn rfl (rv_move rfl) ?_
      obtain ⟨x26, hx27, h28⟩ := Option.bind_eq_some_iff.1 h24
      refine wl_indexAddr (t := tStr) wn rfl Try.underlying26 tf9 rfl rfl (SliceAt.mono hl19 hs4) hx27 ?_
      intro b29 o30 u31 hu32 ha33
      obtain ⟨rfl, hl34⟩ := hu32
      have ha35 : AtK _ b29 o30 [sv x26] := ha33
      refine wl_val wn rfl (rv_load1 tf9 rfl hS21 (ha35 0 _ rfl)) ?_
      refine wl_val wn rfl (rv_assign rfl) ?_
      refine wl_val wn rfl (rv_assign rfl) ?_
      refine wl_nil ?_
      refine qe_seq ?_
      refine wc_seq ?_
      obtain ⟨o36, h37, h38⟩ := Option.bind_eq_some_iff.1 h28
      refine wc_cutg (fun E' w' => ∃ (K39 : KMap), E' = [(0, .slice a1 n2 c3), (5, .slice a1 n2 c3), (6, .int .i64 (p0_list.length : Int)), (7, .int .i64 ((i17 : Nat) : Int)), (27, .bool o36)] ∧ SH w K [] w' K39 [] ∧ KLe K18 K39) ?_ ?_
      · refine wc_region ?_
        refine wl_val wn rfl (rv_move rfl) ?_
        obtain ⟨r43, hx44, h45⟩ := Option.bind_eq_some_iff.1 h37
        refine wl_call wn rfl (rt_call (vs := [sv x26]) co80 rfl) ((ok_impl_WordOk F) hS21.enter0 hl34 hx44) ?_
        rintro e49 w47 ⟨K46, rfl, hS48⟩
        refine ⟨_, rfl, ?_⟩
        have hS50 : SH _ _ _ _ _ [] := SH.call0 hS21 hS48
        refine wl_val wn rfl (rv_not rfl) ?_
        refine wl_val wn rfl (rv_move rfl) ?_
        rcases bool_tf ((!r43)) with hb51 | hb51
        · have h52 := cond_t hb51 h45
          refine wl_un (ug rfl rfl hb51) rfl ?_
          refine wl_un (ug rfl rfl hb51) rfl ?_
          refine wl_un (ug rfl rfl hb51) rfl ?_
          refine wl_un (uu rfl rfl) rfl ?_
          refine wl_un (uu rfl rfl) rfl ?_
          refine wl_un (uu rfl rfl) rfl ?_
          refine wl_un (uu rfl rfl) rfl ?_
          refine wl_un (uu rfl rfl) rfl ?_
          refine wl_un (uu rfl rfl) rfl ?_
          refine wl_un (uu rfl rfl) rfl ?_
          refine wl_un (ug rfl rfl hb51) rfl ?_
          refine wl_val wn rfl (rv_pick_t (v := .bool true) rfl hb51 rfl) ?_
          refine wl_nil ?_
          obtain rfl := Option.some.inj h52
          exact qe_mid' ⟨K46, rfl, hS50, hS48.le⟩ ⟨rfl, rfl, rfl, rfl, rfl, trivial⟩
        · have h52 := cond_f hb51 h45
          refine wl_val (wg rfl rfl hb51) rfl (rv_move rfl) ?_
          refine wl_val (wg rfl rfl hb51) rfl (rv_gtr rfl rfl) ?_
          refine wl_val (wg rfl rfl hb51) rfl (rv_move rfl) ?_
          rcases bool_tf (decide ((0 : Int) < ((i17 : Nat) : Int))) with hb53 | hb53
          · have h54 := cond_t hb53 h52
            refine wl_val (wg rfl rfl hb53) rfl (rv_move rfl) ?_
            refine wl_val (wg rfl rfl hb53) rfl (rv_move rfl) ?_
            refine wl_val (wg rfl rfl hb53) rfl (rv_sub rfl rfl) ?_
            obtain ⟨x55, hx56, h57⟩ := Option.bind_eq_some_iff.1 h54
            refine wl_indexAddr (t := tStr) (wg rfl rfl hb53) rfl Try.underlying26 tf9 rfl rfl (SliceAt.mono (hl19.trans hS48.le) hs4) hx56 ?_
            intro b58 o59 u60 hu61 ha62
            obtain ⟨rfl, hl63⟩ := hu61
            have ha64 : AtK _ b58 o59 [sv x55] := ha62
            refine wl_val (wg rfl rfl hb53) rfl (rv_load1 tf9 rfl hS50 (ha64 0 _ rfl)) ?_
            refine wl_val (wg rfl rfl hb53) rfl (rv_move rfl) ?_
            refine wl_val (wg rfl rfl hb53) rfl (rv_sgeq rfl rfl) ?_
            refine wl_val (wg rfl rfl hb51) rfl (rv_pick_t rfl hb53 rfl) ?_
            refine wl_val wn rfl (rv_pick_f rfl hb51 rfl) ?_
            refine wl_nil ?_
            obtain rfl := Option.some.inj h57
            exact qe_mid' ⟨K46, rfl, hS50, hS48.le⟩ ⟨rfl, rfl, rfl, rfl, rfl, trivial⟩
          · have h54 := cond_f hb53 h52
            refine wl_un (ug rfl rfl hb53) rfl ?_
            refine wl_un (ug rfl rfl hb53) rfl ?_
            refine wl_un (ug rfl rfl hb53) rfl ?_
            refine wl_un (ug rfl rfl hb53) rfl ?_
            refine wl_un (ug rfl rfl hb53) rfl ?_
            refine wl_un (ug rfl rfl hb53) rfl ?_
            refine wl_un (ug rfl rfl hb53) rfl ?_
            refine wl_val (wg rfl rfl hb51) rfl (rv_pick_f (v := .bool false) rfl hb53 rfl) ?_
            refine wl_val wn rfl (rv_pick_f rfl hb51 rfl) ?_
            refine wl_nil ?_
            obtain rfl := Option.some.inj h54
            exact qe_mid' ⟨K46, rfl, hS50, hS48.le⟩ ⟨rfl, rfl, rfl, rfl, rfl, trivial⟩
      · rintro _ w41 ⟨K39, rfl, hS42, hl40⟩
        refine qe_seq ?_
        refine wc_cond rfl (fun hb65 => ?_) (fun hb65 => ?_)
        · have h66 := cond_t hb65 h38
          refine wc_seq ?_
          refine wc_region ?_
          refine wl_val wn rfl (rv_assign (v := .bool false) rfl) ?_
          refine wl_nil ?_
          refine qe_seq ?_
          refine wc_ret ?_
          refine qe_block_ret ?_
          refine qe_then_ret ?_
          refine qe_then_ret ?_
          obtain rfl := Option.some.inj h66
          have e67 := hx25 _ rfl
          subst e67
          refine qe_block_ret ?_
          refine qe_then_ret ?_
          obtain rfl := Option.some.inj h16
          refine qe_then_ret ?_
          obtain rfl := Option.some.inj h7
          exact qe_ret (vs := [_]) Try.results62 ⟨rfl, trivial⟩ ⟨K39, rfl, hS42⟩
        · have h66 := cond_f hb65 h38
          refine wc_skip ?_
          refine qe_block ?_
          refine qe_seq (wc_region ?_)
          refine wl_val wn rfl (rv_add_to rfl rfl (w64_succ hi23 (SliceAt.max hs4))) ?_
          refine wl_val wn rfl (rv_move rfl) ?_
          refine wl_nil ?_
          obtain rfl := Option.some.inj h66
          exact qe_mid' ⟨_, rfl, K39, rfl, hS42, (hl19.trans hl40)⟩ ⟨rfl, rfl, rfl, rfl, trivial⟩
    · rintro s13 _ w20 hr68 ⟨K18, rfl, hS21, hl19⟩
      subst hr68
      refine wc_seq (wc_region ?_)
      refine wl_val wn rfl (rv_lss rfl rfl) ?_
      refine wl_nil (qe_seq (wc_seq ?_))
      refine wc_cond_f rfl (decide_eq_false (by omega)) ?_
      refine wc_exit ?_
      refine qe_then_exit ?_
      refine qe_then_exit ?_
      refine qe_block_eq ?_
      obtain rfl := Option.some.inj h16
      exact qe_mid' ⟨_, K18, rfl, rfl, hS21, hl19⟩ trivial
  · rintro _ w11 ⟨s8, K9, rfl, rfl, hS12, hl10⟩
    refine qe_seq ?_
    refine wc_seq ?_
    refine wc_region ?_
    refine wl_val wn rfl (rv_assign (v := .bool true) rfl) ?_
    refine wl_nil ?_
    refine qe_seq ?_
    refine wc_ret ?_
    obtain rfl := Option.some.inj h7
    exact qe_ret (vs := [_]) Try.results62 ⟨rfl, trivial⟩ ⟨K9, rfl, hS12⟩

theorem ok_impl_WordsUp (F : Nat) {w : World} {K : KMap} {a1 : Option Addr} {n2 c3 : Nat} {p0_list : List Str} {r : Bool} (hS : SH w K [] w K []) (hs4 : SliceAt tStr K a1 n2 c3 p0_list) (hm : M.impl_WordsUp F p0_list = some r) :
    Calls Try.prog 30 #[.slice a1 n2 c3] w fun e w' => ∃ (K' : KMap), e = .returned (.bool r) ∧ SH w K [] w' K' [] := by
  rw [M.impl_WordsUp] at hm
  refine calls_in Try.func30 rfl Try.ntmps30 rfl ?_
  refine wc_seq ?_
  refine wc_region ?_
  refine wl_val wn rfl (rv_assign (v := .bool false) rfl) ?_
  refine wl_nil ?_
  refine qe_seq ?_
  refine wc_seq ?_
  refine wc_region ?_
  refine wl_val wn rfl (rv_move rfl) ?_
  refine wl_val wn rfl (rv_len (t := tStr) Try.underlying26 rfl hs4) ?_
  refine wl_val wn rfl (rv_leq rfl rfl) ?_
  refine wl_val wn rfl (rv_move rfl) ?_
  rcases bool_tf (decide ((p0_list.length : Int) ≤ (40 : Int))) with hb5 | hb5
  · have h6 := cond_t hb5 hm
    refine wl_val (wg rfl rfl hb5) rfl (rv_move rfl) ?_
    obtain ⟨r7, hx8, h9⟩ := Option.bind_eq_some_iff.1 h6
    refine wl_call (wg rfl rfl hb5) rfl (rt_call (vs := [.slice a1 n2 c3]) co62 rfl) ((ok_impl_wordsAscend F) hS.enter0 hs4 hx8) ?_
    rintro e13 w11 ⟨K10, rfl, hS12⟩
    refine ⟨_, rfl, ?_⟩
    have hS14 : SH _ _ _ _ _ [] := SH.call0 hS hS12
    refine wl_val wn rfl (rv_pick_t rfl hb5 rfl) ?_
    refine wl_val wn rfl (rv_assign rfl) ?_
    refine wl_nil ?_
    refine qe_seq ?_
    refine wc_ret ?_
    obtain rfl := Option.some.inj h9
    exact qe_ret (vs := [_]) Try.results30 ⟨rfl, trivial⟩ ⟨K10, rfl, hS14⟩
  · have h6 := cond_f hb5 hm
    refine wl_un (ug rfl rfl hb5) rfl ?_
    refine wl_un (ug rfl rfl hb5) rfl ?_
    refine wl_val wn rfl (rv_pick_f (v := .bool false) rfl hb5 rfl) ?_
    refine wl_val wn rfl (rv_assign rfl) ?_
    refine wl_nil ?_
    refine qe_seq ?_
    refine wc_ret ?_
    obtain rfl := Option.some.inj h6
    exact qe_ret (vs := [_]) Try.results30 ⟨rfl, trivial⟩ ⟨K, rfl, hS⟩

theorem ok_slices_Equal_Arc (F : Nat) {w : World} {K : KMap} {a1 : Option Addr} {n2 c3 : Nat} {a5 : Option Addr} {n6 c7 : Nat} {p0_s1 : List GArc} {p1_s2 : List GArc} {r : Bool} (hS : SH w K [] w K []) (hs4 : SliceAt tGArc K a1 n2 c3 p0_s1) (hs8 : SliceAt tGArc K a5 n6 c7 p1_s2) (hm : M.slices_Equal_Arc F p0_s1 p1_s2 = some r) :
    Calls Try.prog 90 #[.slice a1 n2 c3, .slice a5 n6 c7] w fun e w' => ∃ (K' : KMap), e = .returned (.bool r) ∧ SH w K [] w' K' [] := by
  rw [M.slices_Equal_Arc] at hm
  refine calls_in Try.func90 rfl Try.ntmps90 rfl ?_
  refine wc_seq ?_
  refine wc_region ?_
  refine wl_val wn rfl (rv_assign (v := .bool false) rfl) ?_
  refine wl_nil ?_
  refine qe_seq ?_
  refine wc_seq ?_
  refine wc_seq ?_
  refine wc_region ?_
  refine wl_val wn rfl (rv_move rfl) ?_
  refine wl_val wn rfl (rv_len (t := tGArc) Try.underlying31 rfl hs4) ?_
  refine wl_val wn rfl (rv_move rfl) ?_
  refine wl_val wn rfl (rv_len (t := tGArc) Try.underlying31 rfl hs8) ?_
  refine wl_val wn rfl (rv_neq rfl rfl) ?_
  refine wl_nil ?_
  refine qe_seq ?_
  refine wc_cond rfl (fun hb9 => ?_) (fun hb9 => ?_)
  · have h10 := cond_t hb9 hm
    refine wc_seq ?_
    refine wc_region ?_
    refine wl_val wn rfl (rv_assign (v := .bool false) rfl) ?_
    refine wl_nil ?_
    refine qe_seq ?_
    refine wc_ret ?_
    refine qe_then_ret ?_
    obtain rfl := Option.some.inj h10
    exact qe_ret (vs := [_]) Try.results90 ⟨rfl, trivial⟩ ⟨K, rfl, hS⟩
  · have h10 := cond_f hb9 hm
    refine wc_skip ?_
    refine qe_seq ?_
    refine wc_seq ?_
    refine wc_seq ?_
    refine wc_region ?_
    refine wl_val wn rfl (rv_move rfl) ?_
    refine wl_val wn rfl (rv_len (t := tGArc) Try.underlying31 rfl hs4) ?_
    refine wl_val wn rfl (rv_move (v := .int .i64 0) rfl) ?_
    refine wl_nil ?_
    refine qe_seq ?_
    obtain ⟨o11, h12, h13⟩ := Option.bind_eq_some_iff.1 h10
    refine wc_cutg (fun E' w' => ∃ (s14 : Unit) (K15 : KMap), o11 = .inl s14 ∧ E' = [] ∧ SH w K [] w' K15 [] ∧ KLe K K15) ?_ ?_
    · refine wc_block ?_
      obtain ⟨r20, h21, h22⟩ := Option.bind_eq_some_iff.1 h12
      refine wc_for' (fun (i23 : Nat) (s19 : Unit) E' w' => ∃ (K24 : KMap), E' = [(0, .slice a1 n2 c3), (1, .slice a5 n6 c7), (12, .int .i64 (p0_s1.length : Int)), (13, .int .i64 ((i23 : Nat) : Int))] ∧ SH w K [] w' K24 [] ∧ KLe K K24) h21 ⟨K, rfl, hS, (KLe.refl _)⟩ ⟨rfl, rfl, rfl, rfl, trivial⟩ ?_ ?_
      · rintro i23 s19 _ w26 r28 hi29 h30 hx31 ⟨K24, rfl, hS27, hl25⟩
        refine wc_seq (wc_region ?_)
        refine wl_val wn rfl (rv_lss rfl rfl) ?_
        refine wl_nil (qe_seq (wc_seq ?_))
        refine wc_cond_t rfl (decide_eq_true (by omega)) (wc_skip (qe_seq (wc_seq ?_)))
        refine wc_block ?_
        refine wc_seq ?_
        refine wc_region ?_
        refine wl_val wn rfl (rv_move rfl) ?_
        refine wl_val wn rfl (rv_assign rfl) ?_
        refine wl_nil ?_
        refine qe_seq ?_
        refine wc_seq ?_
        refine wc_quiet mixed (by kernel_rfl) hS27 ?_
        refine wq_val wn rfl (fun _ _ => (rv_move rfl)) ?_
        refine wq_val wn rfl (fun _ _ => (rv_move rfl)) ?_
        obtain ⟨x32, hx33, h34⟩ := Option.bind_eq_some_iff.1 h30
        refine wq_indexAddr (t := tGArc) wn rfl Try.underlying31 tf35 rfl rfl (SliceAt.mono hl25 hs4) hx33 ?_
        intro b35 o36 u37 hu38 ha39
        obtain ⟨rfl, hr40⟩ := hu38
        have ha41 : AtK _ b35 o36 [iv8 x32.Byte, .int .i64 x32.To] := ha39
        refine wq_val wn rfl (rq_loadS (cs := [iv8 x32.Byte, .int .i64 x32.To]) tf35 rfl ha41 rfl) ?_
        refine wq_val wn rfl (fun _ _ => (rv_move rfl)) ?_
        refine wq_val wn rfl (fun _ _ => (rv_move rfl)) ?_
        obtain ⟨x42, hx43, h44⟩ := Option.bind_eq_some_iff.1 h34
        refine wq_indexAddr (t := tGArc) wn rfl Try.underlying31 tf35 rfl rfl (SliceAt.mono hl25 hs8) hx43 ?_
        intro b45 o46 u47 hu48 ha49
        obtain ⟨rfl, hr50⟩ := hu48
        have ha51 : AtK _ b45 o46 [iv8 x42.Byte, .int .i64 x42.To] := ha49
        refine wq_val wn rfl (rq_loadS (cs := [iv8 x42.Byte, .int .i64 x42.To]) tf35 rfl ha51 rfl) ?_
        refine wq_val wn rfl (fun _ _ => (rv_neS eqg35 rfl rfl (eqs35 x32.Byte x32.To x42.Byte x42.To))) ?_
        refine wq_nil ?_
        rintro w53 ⟨K52, hS54, hl55⟩
        refine qe_seq ?_
        refine wc_cond rfl (fun hb56 => ?_) (fun hb56 => ?_)
        · have h57 := cond_t hb56 h44
          refine wc_seq ?_
          refine wc_region ?_
          refine wl_val wn rfl (rv_assign (v := .bool false) rfl) ?_
          refine wl_nil ?_
          refine qe_seq ?_
          refine wc_ret ?_
          refine qe_block_ret ?_
          refine qe_then_ret ?_
          refine qe_then_ret ?_
          obtain rfl := Option.some.inj h57
          have e58 := hx31 _ rfl
          subst e58
          refine qe_block_ret ?_
          refine qe_then_ret ?_
          obtain rfl := Option.some.inj h22
          refine qe_then_ret ?_
          obtain rfl := Option.some.inj h13
          exact qe_ret (vs := [_]) Try.results90 ⟨rfl, trivial⟩ ⟨K52, rfl, hS54⟩
        · have h57 := cond_f hb56 h44
          refine wc_skip ?_
          refine qe_block ?_
          refine qe_seq (wc_region ?_)
          refine wl_val wn rfl (rv_add_to rfl rfl (w64_succ hi29 (SliceAt.max hs4))) ?_
          refine wl_val wn rfl (rv_move rfl) ?_
          refine wl_nil ?_
          obtain rfl := Option.some.inj h57
          exact qe_mid' ⟨_, rfl, K52, rfl, hS54, (hl25.trans hl55)⟩ ⟨rfl, rfl, rfl, rfl, trivial⟩
      · rintro s19 _ w26 hr59 ⟨K24, rfl, hS27, hl25⟩
        subst hr59
        refine wc_seq (wc_region ?_)
        refine wl_val wn rfl (rv_lss rfl rfl) ?_
        refine wl_nil (qe_seq (wc_seq ?_))
        refine wc_cond_f rfl (decide_eq_false (by omega)) ?_
        refine wc_exit ?_
        refine qe_then_exit ?_
        refine qe_then_exit ?_
        refine qe_block_eq ?_
        obtain rfl := Option.some.inj h22
        exact qe_mid' ⟨_, K24, rfl, rfl, hS27, hl25⟩ trivial
    · rintro _ w17 ⟨s14, K15, rfl, rfl, hS18, hl16⟩
      refine qe_seq ?_
      refine wc_seq ?_
      refine wc_region ?_
      refine wl_val wn rfl (rv_assign (v := .bool true) rfl) ?_
      refine wl_nil ?_
      refine qe_seq ?_
      refine wc_ret ?_
      obtain rfl := Option.some.inj h13
      exact qe_ret (vs := [_]) Try.results90 ⟨rfl, trivial⟩ ⟨K15, rfl, hS18⟩

theorem ok_impl_sameState (F : Nat) {w : World} {K : KMap} {a2 : Option Addr} {n3 c4 : Nat} {a7 : Option Addr} {n8 c9 : Nat} {p0_a : GState} {p1_b : GState} {r : Bool} (hS : SH w K [] w K []) (hr1 : rng64 p0_a.Many) (hs5 : SliceAt tGArc K a2 n3 c4 p0_a.Arcs) (hr6 : rng64 p1_b.Many) (hs10 : SliceAt tGArc K a7 n8 c9 p1_b.Arcs) (hm : M.impl_sameState F p0_a p1_b = some r) :
    Calls Try.prog 76 #[.agg #[.bool p0_a.Final, .int .i64 p0_a.Many, .slice a2 n3 c4], .agg #[.bool p1_b.Final, .int .i64 p1_b.Many, .slice a7 n8 c9]] w fun e w' => ∃ (K' : KMap), e = .returned (.bool r) ∧ SH w K [] w' K' [] := by
  rw [M.impl_sameState] at hm
  refine calls_in Try.func76 rfl Try.ntmps76 rfl ?_
  refine wc_seq ?_
  refine wc_region ?_
  refine wl_box wn rfl rfl hS ?_
  intro g11 w12 hS13
  have hS14 : SH _ _ _ _ _ [obj g11 [.bool p0_a.Final, .int .i64 p0_a.Many, .slice a2 n3 c4] 33] := hS13
  refine wl_box wn rfl rfl hS14 ?_
  intro g15 w16 hS17
  have hS18 : SH _ _ _ _ _ [obj g15 [.bool p1_b.Final, .int .i64 p1_b.Many, .slice a7 n8 c9] 33, _] := hS17
  refine wl_val wn rfl (rv_assign (v := .bool false) rfl) ?_
  refine wl_nil ?_
  refine qe_seq ?_
  refine wc_seq ?_
  refine wc_region ?_
  refine wl_val wn rfl (rv_fieldAddr ff33_0 rfl) ?_
  refine wl_val wn rfl (rv_loadm1 tf4 rfl (.tail _ (.head _)) hS18 rfl) ?_
  refine wl_val wn rfl (rv_fieldAddr ff33_0 rfl) ?_
  refine wl_val wn rfl (rv_loadm1 tf4 rfl (.head _) hS18 rfl) ?_
  refine wl_val wn rfl (rv_booleq Try.underlying4 rfl rfl) ?_
  refine wl_val wn rfl (rv_move rfl) ?_
  rcases bool_tf ((p0_a.Final == p1_b.Final)) with hb19 | hb19
  · have h20 := cond_t hb19 hm
    refine wl_val (wg rfl rfl hb19) rfl (rv_fieldAddr ff33_1 rfl) ?_
    refine wl_val (wg rfl rfl hb19) rfl (rv_loadm1 tf3 rfl (.tail _ (.head _)) hS18 rfl) ?_
    refine wl_val (wg rfl rfl hb19) rfl (rv_fieldAddr ff33_1 rfl) ?_
    refine wl_val (wg rfl rfl hb19) rfl (rv_loadm1 tf3 rfl (.head _) hS18 rfl) ?_
    refine wl_val (wg rfl rfl hb19) rfl (rv_eql rfl rfl) ?_
    refine wl_val wn rfl (rv_pick_t rfl hb19 rfl) ?_
    refine wl_val wn rfl (rv_move rfl) ?_
    rcases bool_tf ((p0_a.Many == p1_b.Many)) with hb21 | hb21
    · have h22 := cond_t hb21 h20
      refine wl_val (wg rfl rfl hb21) rfl (rv_fieldAddr ff33_2 rfl) ?_
      refine wl_val (wg rfl rfl hb21) rfl (rv_loadm1 tf31 rfl (.tail _ (.head _)) hS18 rfl) ?_
      refine wl_val (wg rfl rfl hb21) rfl (rv_fieldAddr ff33_2 rfl) ?_
      refine wl_val (wg rfl rfl hb21) rfl (rv_loadm1 tf31 rfl (.head _) hS18 rfl) ?_
      obtain ⟨r23, hx24, h25⟩ := Option.bind_eq_some_iff.1 h22
      refine wl_call (wg rfl rfl hb21) rfl (rt_call (vs := [.slice a2 n3 c4, .slice a7 n8 c9]) co90 rfl) ((ok_slices_Equal_Arc F) hS18.enter0 hs5 hs10 hx24) ?_
      rintro e29 w27 ⟨K26, rfl, hS28⟩
      refine ⟨_, rfl, ?_⟩
      have hS30 : SH _ _ _ _ _ [_, _] := SH.call0 hS18 hS28
      refine wl_val wn rfl (rv_pick_t rfl hb21 rfl) ?_
      refine wl_val wn rfl (rv_assign rfl) ?_
      refine wl_nil ?_
      refine qe_seq ?_
      refine wc_ret ?_
      obtain rfl := Option.some.inj h25
      have hS31 : SH _ _ _ _ _ [] := SH.sublist hS30 (.cons _ (.cons _ .slnil))
      exact qe_ret (vs := [_]) Try.results76 ⟨rfl, trivial⟩ ⟨K26, rfl, hS31⟩
    · have h22 := cond_f hb21 h20
      refine wl_un (ug rfl rfl hb21) rfl ?_
      refine wl_un (ug rfl rfl hb21) rfl ?_
      refine wl_un (ug rfl rfl hb21) rfl ?_
      refine wl_un (ug rfl rfl hb21) rfl ?_
      refine wl_un (ug rfl rfl hb21) rfl ?_
      refine wl_val wn rfl (rv_pick_f (v := .bool false) rfl hb21 rfl) ?_
      refine wl_val wn rfl (rv_assign rfl) ?_
      refine wl_nil ?_
      refine qe_seq ?_
      refine wc_ret ?_
      obtain rfl := Option.some.inj h22
      have hS32 : SH _ _ _ _ _ [] := SH.sublist hS18 (.cons _ (.cons _ .slnil))
      exact qe_ret (vs := [_]) Try.results76 ⟨rfl, trivial⟩ ⟨K, rfl, hS32⟩
  · have h20 := cond_f hb19 hm
    refine wl_un (ug rfl rfl hb19) rfl ?_
    refine wl_un (ug rfl rfl hb19) rfl ?_
    refine wl_un (ug rfl rfl hb19) rfl ?_
    refine wl_un (ug rfl rfl hb19) rfl ?_
    refine wl_un (ug rfl rfl hb19) rfl ?_
    refine wl_val wn rfl (rv_pick_f (v := .bool false) rfl hb19 rfl) ?_
    refine wl_val wn rfl (rv_move rfl) ?_
    refine wl_un (ug rfl rfl rfl) rfl ?_
    refine wl_un (ug rfl rfl rfl) rfl ?_
    refine wl_un (ug rfl rfl rfl) rfl ?_
    refine wl_un (ug rfl rfl rfl) rfl ?_
    refine wl_un (ug rfl rfl rfl) rfl ?_
    refine wl_val wn rfl (rv_pick_f (v := .bool false) rfl rfl rfl) ?_
    refine wl_val wn rfl (rv_assign rfl) ?_
    refine wl_nil ?_
    refine qe_seq ?_
    refine wc_ret ?_
    obtain rfl := Option.some.inj h20
    have hS33 : SH _ _ _ _ _ [] := SH.sublist hS18 (.cons _ (.cons _ .slnil))
    exact qe_ret (vs := [_]) Try.results76 ⟨rfl, trivial⟩ ⟨K, rfl, hS33⟩

theorem ok_impl_dawg_put (F : Nat) : ∀ {w : World} {K : KMap} {g1 : Nat} {a2 : Option Addr} {n3 c4 : Nat} {a6 : Option Addr} {n7 c8 : Nat} {p0_d : GDawg} {p1_list : List Str} {r : Int × GDawg} (hS : SH w K (List.filterMap Item.g [obj g1 [.slice a2 n3 c4] 68, tail (.slice a2 n3 c4) 33 3]) w K [obj g1 [.slice a2 n3 c4] 68, tail (.slice a2 n3 c4) 33 3]) (hs5 : SliceAt tGState K a2 n3 c4 p0_d.states_) (hs9 : SliceAt tStr K a6 n7 c8 p1_list) (hm : M.impl_dawg_put F p0_d p1_list = some r),
    Calls Try.prog 53 #[.pointer (some ⟨g1, 0, none⟩), .slice a6 n7 c8] w fun e w' => ∃ (a_2 : Option Addr) (n_3 c_4 : Nat) (K' : KMap), e = .returned (.int .i64 r.1) ∧ SH w K (List.filterMap Item.g [obj g1 [.slice a2 n3 c4] 68, tail (.slice a2 n3 c4) 33 3]) w' K' [obj g1 [.slice a_2 n_3 c_4] 68, tail (.slice a_2 n_3 c_4) 33 3] ∧ rng64 r.1 ∧ SliceAt tGState K' a_2 n_3 c_4 r.2.states_ := by
  induction F with
  | zero => intros; rename_i hm; rw [M.impl_dawg_put] at hm; cases hm
  | succ F ih =>
    intro w K g1 a2 n3 c4 a6 n7 c8 p0_d p1_list r hS hs5 hs9 hm
    rw [M.impl_dawg_put] at hm
    refine calls_in Try.func53 rfl Try.ntmps53 rfl ?_
    refine wc_seq ?_
    refine wc_region ?_
    refine wl_val wn rfl (rv_assign (v := .int .i64 0) rfl) ?_
    refine wl_nil ?_
    refine qe_seq ?_
    refine wc_seq ?_
    refine wc_region ?_
    refine wl_val wn rfl (rv_move rfl) ?_
    refine wl_val wn rfl (rv_len (t := tStr) Try.underlying26 rfl hs9) ?_
    refine wl_buildSlice0 tGArc wn rfl Try.underlying31 tf35 hS ?_
    intro a10 w11 K12 hl13 hs14 hS15
    refine wl_val wn rfl (rv_build (cs := #[.bool false, .int .i64 (p1_list.length : Int), .slice a10 0 0]) sp33 tf33 rfl (by kernel_rfl)) ?_
    refine wl_alloc wn rfl tf33 hS15 ?_
    intro g16 w17 hS18
    have hS19 : SH _ _ _ _ _ [obj g16 [.bool false, .int .i64 0, .slice none 0 0] 33, _, _, _] := hS18
    refine wl_store (cs' := [.bool false, .int .i64 (p1_list.length : Int), .slice a10 0 0]) (v := .agg #[.bool false, .int .i64 (p1_list.length : Int), .slice a10 0 0]) wn tf33 rfl rfl rfl (by simp [Value.cells, Value.oneCell']) hS19 rfl rfl ?_
    intro w20 hS21
    refine wl_nil ?_
    refine qe_seq ?_
    refine wc_seq ?_
    refine wc_seq ?_
    obtain ⟨o22, h23, h24⟩ := Option.bind_eq_some_iff.1 hm
    refine wc_cutg (fun E' w' => ∃ (K25 : KMap), E' = [(0, .pointer (some ⟨g1, 0, none⟩)), (1, .slice a6 n7 c8), (5, .pointer (some ⟨g16, 0, none⟩)), (22, .bool o22)] ∧ SH w K (List.filterMap Item.g [obj g1 [.slice a2 n3 c4] 68, tail (.slice a2 n3 c4) 33 3]) w' K25 [obj g1 [.slice a2 n3 c4] 68, tail (.slice a2 n3 c4) 33 3, obj g16 [.bool false, .int .i64 (p1_list.length : Int), .slice a10 0 0] 33, tail (.slice a10 0 0) 35 2] ∧ KLe K12 K25) ?_ ?_
    · refine wc_region ?_
      refine wl_val wn rfl (rv_move rfl) ?_
      refine wl_val wn rfl (rv_len (t := tStr) Try.underlying26 rfl (SliceAt.mono hl13 hs9)) ?_
      refine wl_val wn rfl (rv_gtr rfl rfl) ?_
      refine wl_val wn rfl (rv_move rfl) ?_
      rcases bool_tf (decide ((0 : Int) < (p1_list.length : Int))) with hb29 | hb29
      · have h30 := cond_t hb29 h23
        refine wl_val (wg rfl rfl hb29) rfl (rv_move rfl) ?_
        obtain ⟨x31, hx32, h33⟩ := Option.bind_eq_some_iff.1 h30
        refine wl_indexAddr (t := tStr) (wg rfl rfl hb29) rfl Try.underlying26 tf9 rfl rfl (SliceAt.mono hl13 hs9) hx32 ?_
        intro b34 o35 u36 hu37 ha38
        obtain ⟨rfl, hl39⟩ := hu37
        have ha40 : AtK _ b34 o35 [sv x31] := ha38
        refine wl_val (wg rfl rfl hb29) rfl (rv_load1 tf9 rfl hS21 (ha40 0 _ rfl)) ?_
        refine wl_val (wg rfl rfl hb29) rfl (rv_seql (r := ([] : Str)) rfl rfl) ?_
        refine wl_val wn rfl (rv_pick_t rfl hb29 rfl) ?_
        refine wl_nil ?_
        obtain rfl := Option.some.inj h33
        have hS41 : SH _ _ _ _ _ [_, _, _, _] := SH.front (p := [_]) hS21
        have hS42 : SH _ _ _ _ _ [_, _, _, _] := SH.front (p := [_]) hS41
        have hS43 : SH _ _ _ _ _ [_, _, _, _] := SH.front (p := [_, _, _]) hS42
        have hS44 : SH _ _ _ _ _ [_, _, _, _] := SH.front (p := [_, _, _]) hS43
        exact qe_mid' ⟨K12, rfl, hS44, (KLe.refl _)⟩ ⟨rfl, rfl, rfl, rfl, trivial⟩
      · have h30 := cond_f hb29 h23
        refine wl_un (ug rfl rfl hb29) rfl ?_
        refine wl_un (ug rfl rfl hb29) rfl ?_
        refine wl_un (ug rfl rfl hb29) rfl ?_
        refine wl_un (ug rfl rfl hb29) rfl ?_
        refine wl_val wn rfl (rv_pick_f (v := .bool false) rfl hb29 rfl) ?_
        refine wl_nil ?_
        obtain rfl := Option.some.inj h30
        have hS45 : SH _ _ _ _ _ [_, _, _, _] := SH.front (p := [_]) hS21
        have hS46 : SH _ _ _ _ _ [_, _, _, _] := SH.front (p := [_]) hS45
        have hS47 : SH _ _ _ _ _ [_, _, _, _] := SH.front (p := [_, _, _]) hS46
        have hS48 : SH _ _ _ _ _ [_, _, _, _] := SH.front (p := [_, _, _]) hS47
        exact qe_mid' ⟨K12, rfl, hS48, (KLe.refl _)⟩ ⟨rfl, rfl, rfl, rfl, trivial⟩
    · rintro _ w27 ⟨K25, rfl, hS28, hl26⟩
      refine qe_seq ?_
      obtain ⟨o49, h50, h51⟩ := Option.bind_eq_some_iff.1 h24
      refine wc_cutg (fun E' w' => ∃ (a56 : Option Addr) (n57 c58 : Nat) (a61 : Option Addr) (n62 c63 : Nat) (K52 : KMap), E' = [(0, .pointer (some ⟨g1, 0, none⟩)), (1, .slice a56 n57 c58), (5, .pointer (some ⟨g16, 0, none⟩))] ∧ SH w K (List.filterMap Item.g [obj g1 [.slice a2 n3 c4] 68, tail (.slice a2 n3 c4) 33 3]) w' K52 [obj g1 [.slice a2 n3 c4] 68, tail (.slice a2 n3 c4) 33 3, obj g16 [.bool o49.2.Final, .int .i64 o49.2.Many, .slice a61 n62 c63] 33, tail (.slice a61 n62 c63) 35 2] ∧ KLe K25 K52 ∧ SliceAt tStr K52 a56 n57 c58 o49.1 ∧ rng64 o49.2.Many ∧ SliceAt tGArc K52 a61 n62 c63 o49.2.Arcs) ?_ ?_
      · refine wc_cond rfl (fun hb65 => ?_) (fun hb65 => ?_)
        · have h66 := cond_t hb65 h50
          refine wc_seq ?_
          refine wc_region ?_
          refine wl_val wn rfl (rv_fieldAddr ff33_0 rfl) ?_
          have hS67 : SH _ _ _ _ _ [_, _, _, _] := SH.front (p := [_, _]) hS28
          refine wl_store (cs' := [.bool true, .int .i64 (p1_list.length : Int), .slice a10 0 0]) (v := .bool true) wn tf4 rfl rfl rfl (by simp [Value.cells, Value.oneCell']) hS67 rfl rfl ?_
          intro w68 hS69
          refine wl_nil ?_
          refine qe_seq ?_
          refine wc_region ?_
          refine wl_val wn rfl (rv_move rfl) ?_
          obtain ⟨x70, hx71, h72⟩ := Option.bind_eq_some_iff.1 h66
          refine wl_sl_l (t := tStr) wn rfl Try.underlying26 tf9 rfl rfl (SliceAt.mono (hl13.trans hl26) hs9) hx71 ?_
          intro a73 n74 c75 hs76
          refine wl_val wn rfl (rv_assign rfl) ?_
          refine wl_nil ?_
          obtain rfl := Option.some.inj h72
          have hS77 : SH _ _ _ _ _ [_, _, _, _] := SH.front (p := [_, _, _]) hS69
          have hS78 : SH _ _ _ _ _ [_, _, _, _] := SH.front (p := [_]) hS77
          have hS79 : SH _ _ _ _ _ [_, _, _, _] := SH.front (p := [_, _, _]) hS78
          have hS80 : SH _ _ _ _ _ [_, _, _, _] := SH.front (p := [_, _, _]) hS79
          exact qe_mid' ⟨a73, n74, c75, a10, 0, 0, K25, rfl, hS80, (KLe.refl _), hs76, (rng_nat (SliceAt.max hs9)), (SliceAt.mono hl26 hs14)⟩ ⟨rfl, rfl, rfl, trivial⟩
        · have h66 := cond_f hb65 h50
          refine wc_skip ?_
          obtain rfl := Option.some.inj h66
          exact qe_mid' ⟨a6, n7, c8, a10, 0, 0, K25, rfl, hS28, (KLe.refl _), (SliceAt.mono (hl13.trans hl26) hs9), (rng_nat (SliceAt.max hs9)), (SliceAt.mono hl26 hs14)⟩ ⟨rfl, rfl, rfl, trivial⟩
      · rintro _ w54 ⟨a56, n57, c58, a61, n62, c63, K52, rfl, hS55, hl53, hs59, hr60, hs64⟩
        refine qe_seq ?_
        refine wc_seq ?_
        obtain ⟨o81, h82, h83⟩ := Option.bind_eq_some_iff.1 h51
        refine wc_cutg (fun E' w' => ∃ (a88 : Option Addr) (n89 c90 : Nat) (a93 : Option Addr) (n94 c95 : Nat) (K84 : KMap), E' = [(0, .pointer (some ⟨g1, 0, none⟩)), (5, .pointer (some ⟨g16, 0, none⟩))] ∧ SH w K (List.filterMap Item.g [obj g1 [.slice a2 n3 c4] 68, tail (.slice a2 n3 c4) 33 3]) w' K84 [obj g1 [.slice a88 n89 c90] 68, tail (.slice a88 n89 c90) 33 3, obj g16 [.bool o81.2.Final, .int .i64 o81.2.Many, .slice a93 n94 c95] 33, tail (.slice a93 n94 c95) 35 2] ∧ KLe K52 K84 ∧ SliceAt tGState K84 a88 n89 c90 o81.1.states_ ∧ rng64 o81.2.Many ∧ SliceAt tGArc K84 a93 n94 c95 o81.2.Arcs) ?_ ?_
        · refine wc_block ?_
          obtain ⟨r98, h99, h100⟩ := Option.bind_eq_some_iff.1 h82
          refine wc_while' (fun (s97 : (List Str) × GDawg × GState) E' w' => ∃ (a105 : Option Addr) (n106 c107 : Nat) (a109 : Option Addr) (n110 c111 : Nat) (a114 : Option Addr) (n115 c116 : Nat) (K101 : KMap), E' = [(0, .pointer (some ⟨g1, 0, none⟩)), (1, .slice a105 n106 c107), (5, .pointer (some ⟨g16, 0, none⟩))] ∧ SH w K (List.filterMap Item.g [obj g1 [.slice a2 n3 c4] 68, tail (.slice a2 n3 c4) 33 3]) w' K101 [obj g1 [.slice a109 n110 c111] 68, tail (.slice a109 n110 c111) 33 3, obj g16 [.bool s97.2.2.Final, .int .i64 s97.2.2.Many, .slice a114 n115 c116] 33, tail (.slice a114 n115 c116) 35 2] ∧ KLe K52 K101 ∧ SliceAt tStr K101 a105 n106 c107 s97.1 ∧ SliceAt tGState K101 a109 n110 c111 s97.2.1.states_ ∧ rng64 s97.2.2.Many ∧ SliceAt tGArc K101 a114 n115 c116 s97.2.2.Arcs) h99 ⟨a56, n57, c58, a2, n3, c4, a61, n62, c63, K52, rfl, hS55, (KLe.refl _), hs59, (SliceAt.mono ((hl13.trans hl26).trans hl53) hs5), hr60, hs64⟩ ⟨rfl, rfl, rfl, trivial⟩ ?_
          rintro s97 _ w103 r118 h119 hx120 ⟨a105, n106, c107, a109, n110, c111, a114, n115, c116, K101, rfl, hS104, hl102, hs108, hs112, hr113, hs117⟩
          refine wc_seq ?_
          refine wc_seq ?_
          refine wc_region ?_
          refine wl_val wn rfl (rv_move rfl) ?_
          refine wl_val wn rfl (rv_len (t := tStr) Try.underlying26 rfl hs108) ?_
          refine wl_val wn rfl (rv_gtr rfl rfl) ?_
          refine wl_nil ?_
          refine qe_seq ?_
          refine wc_cond rfl (fun hb121 => ?_) (fun hb121 => ?_)
          · have h122 := cond_t hb121 h119
            refine wc_skip ?_
            refine qe_seq ?_
            refine wc_block ?_
            refine wc_seq ?_
            refine wc_region ?_
            refine wl_val wn rfl (rv_move rfl) ?_
            obtain ⟨x123, hx124, h125⟩ := Option.bind_eq_some_iff.1 h122
            refine wl_indexAddr (t := tStr) wn rfl Try.underlying26 tf9 rfl rfl hs108 hx124 ?_
            intro b126 o127 u128 hu129 ha130
            obtain ⟨rfl, hl131⟩ := hu129
            have ha132 : AtK _ b126 o127 [sv x123] := ha130
            refine wl_val wn rfl (rv_load1 tf9 rfl hS104 (ha132 0 _ rfl)) ?_
            obtain ⟨x133, hx134, h135⟩ := Option.bind_eq_some_iff.1 h125
            refine wl_val wn rfl (rv_sidx Try.underlying9 rfl rfl hx134) ?_
            refine wl_val wn rfl (rv_assign rfl) ?_
            refine wl_nil ?_
            refine qe_seq ?_
            refine wc_seq ?_
            refine wc_region ?_
            refine wl_buildSlice0 tStr wn rfl Try.underlying26 tf9 hS104 ?_
            intro a136 w137 K138 hl139 hs140 hS141
            refine wl_val wn rfl (rv_assign rfl) ?_
            refine wl_nil ?_
            refine qe_seq ?_
            refine wc_seq ?_
            obtain ⟨o142, h143, h144⟩ := Option.bind_eq_some_iff.1 h135
            refine wc_cutg (fun E' w' => ∃ (a149 : Option Addr) (n150 c151 : Nat) (a153 : Option Addr) (n154 c155 : Nat) (K145 : KMap), E' = [(0, .pointer (some ⟨g1, 0, none⟩)), (1, .slice a149 n150 c151), (5, .pointer (some ⟨g16, 0, none⟩)), (6, iv8 x133), (7, .slice a153 n154 c155)] ∧ SH w K (List.filterMap Item.g [obj g1 [.slice a2 n3 c4] 68, tail (.slice a2 n3 c4) 33 3]) w' K145 [obj g1 [.slice a109 n110 c111] 68, tail (.slice a109 n110 c111) 33 3, obj g16 [.bool s97.2.2.Final, .int .i64 s97.2.2.Many, .slice a114 n115 c116] 33, tail (.slice a114 n115 c116) 35 2, tail (.slice a153 n154 c155) 9 1] ∧ KLe K138 K145 ∧ SliceAt tStr K145 a149 n150 c151 o142.1 ∧ SliceAt tStr K145 a153 n154 c155 o142.2) ?_ ?_
            · refine wc_block ?_
              obtain ⟨r158, h159, h160⟩ := Option.bind_eq_some_iff.1 h143
              have hS173 : SH _ _ _ _ _ [_, _, _, _, _] := SH.front (p := [_, _, _, _]) hS141
              have hS174 : SH _ _ _ _ _ [_, _, _, _, _] := SH.front (p := [_, _, _, _]) hS173
              have hS175 : SH _ _ _ _ _ [_, _, _, _, _] := SH.front (p := [_, _, _, _]) hS174
              have hS176 : SH _ _ _ _ _ [_, _, _, _, _] := SH.front (p := [_, _, _, _]) hS175
              refine wc_while' (fun (s157 : (List Str) × (List Str)) E' w' => ∃ (a165 : Option Addr) (n166 c167 : Nat) (a169 : Option Addr) (n170 c171 : Nat) (K161 : KMap), E' = [(0, .pointer (some ⟨g1, 0, none⟩)), (1, .slice a165 n166 c167), (5, .pointer (some ⟨g16, 0, none⟩)), (6, iv8 x133), (7, .slice a169 n170 c171)] ∧ SH w K (List.filterMap Item.g [obj g1 [.slice a2 n3 c4] 68, tail (.slice a2 n3 c4) 33 3]) w' K161 [obj g1 [.slice a109 n110 c111] 68, tail (.slice a109 n110 c111) 33 3, obj g16 [.bool s97.2.2.Final, .int .i64 s97.2.2.Many, .slice a114 n115 c116] 33, tail (.slice a114 n115 c116) 35 2, tail (.slice a169 n170 c171) 9 1] ∧ KLe K138 K161 ∧ SliceAt tStr K161 a165 n166 c167 s157.1 ∧ SliceAt tStr K161 a169 n170 c171 s157.2) h159 ⟨a105, n106, c107, a136, 0, 0, K138, rfl, hS176, (KLe.refl _), (SliceAt.mono hl139 hs108), hs140⟩ ⟨rfl, rfl, rfl, rfl, rfl, trivial⟩ ?_
              rintro s157 _ w163 r177 h178 hx179 ⟨a165, n166, c167, a169, n170, c171, K161, rfl, hS164, hl162, hs168, hs172⟩
              refine wc_seq ?_
              refine wc_seq ?_
              obtain ⟨o180, h181, h182⟩ := Option.bind_eq_some_iff.1 h178
              refine wc_cutg (fun E' w' => ∃ (K183 : KMap), E' = [(0, .pointer (some ⟨g1, 0, none⟩)), (1, .slice a165 n166 c167), (5, .pointer (some ⟨g16, 0, none⟩)), (6, iv8 x133), (7, .slice a169 n170 c171), (44, .bool o180)] ∧ SH w K (List.filterMap Item.g [obj g1 [.slice a2 n3 c4] 68, tail (.slice a2 n3 c4) 33 3]) w' K183 [obj g1 [.slice a109 n110 c111] 68, tail (.slice a109 n110 c111) 33 3, obj g16 [.bool s97.2.2.Final, .int .i64 s97.2.2.Many, .slice a114 n115 c116] 33, tail (.slice a114 n115 c116) 35 2, tail (.slice a169 n170 c171) 9 1] ∧ KLe K161 K183) ?_ ?_
              · refine wc_region ?_
                refine wl_val wn rfl (rv_move rfl) ?_
                refine wl_val wn rfl (rv_len (t := tStr) Try.underlying26 rfl hs168) ?_
                refine wl_val wn rfl (rv_gtr rfl rfl) ?_
                refine wl_val wn rfl (rv_move rfl) ?_
                rcases bool_tf (decide ((0 : Int) < (s157.1.length : Int))) with hb187 | hb187
                · have h188 := cond_t hb187 h181
                  refine wl_val (wg rfl rfl hb187) rfl (rv_move rfl) ?_
                  obtain ⟨x189, hx190, h191⟩ := Option.bind_eq_some_iff.1 h188
                  refine wl_indexAddr (t := tStr) (wg rfl rfl hb187) rfl Try.underlying26 tf9 rfl rfl hs168 hx190 ?_
                  intro b192 o193 u194 hu195 ha196
                  obtain ⟨rfl, hl197⟩ := hu195
                  have ha198 : AtK _ b192 o193 [sv x189] := ha196
                  refine wl_val (wg rfl rfl hb187) rfl (rv_load1 tf9 rfl hS164 (ha198 0 _ rfl)) ?_
                  obtain ⟨x199, hx200, h201⟩ := Option.bind_eq_some_iff.1 h191
                  refine wl_val (wg rfl rfl hb187) rfl (rv_sidx Try.underlying9 rfl rfl hx200) ?_
                  refine wl_val (wg rfl rfl hb187) rfl (rv_move rfl) ?_
                  refine wl_val (wg rfl rfl hb187) rfl (rv_beq rfl rfl) ?_
                  refine wl_val wn rfl (rv_pick_t rfl hb187 rfl) ?_
                  refine wl_nil ?_
                  obtain rfl := Option.some.inj h201
                  exact qe_mid' ⟨K161, rfl, hS164, (KLe.refl _)⟩ ⟨rfl, rfl, rfl, rfl, rfl, rfl, trivial⟩
                · have h188 := cond_f hb187 h181
                  refine wl_un (ug rfl rfl hb187) rfl ?_
                  refine wl_un (ug rfl rfl hb187) rfl ?_
                  refine wl_un (ug rfl rfl hb187) rfl ?_
                  refine wl_un (ug rfl rfl hb187) rfl ?_
                  refine wl_un (ug rfl rfl hb187) rfl ?_
                  refine wl_un (ug rfl rfl hb187) rfl ?_
                  refine wl_val wn rfl (rv_pick_f (v := .bool false) rfl hb187 rfl) ?_
                  refine wl_nil ?_
                  obtain rfl := Option.some.inj h188
                  exact qe_mid' ⟨K161, rfl, hS164, (KLe.refl _)⟩ ⟨rfl, rfl, rfl, rfl, rfl, rfl, trivial⟩
              · rintro _ w185 ⟨K183, rfl, hS186, hl184⟩
                refine qe_seq ?_
                refine wc_cond rfl (fun hb202 => ?_) (fun hb202 => ?_)
                · have h203 := cond_t hb202 h182
                  refine wc_skip ?_
                  refine qe_seq ?_
                  refine wc_block ?_
                  refine wc_seq ?_
                  refine wc_region ?_
                  refine wl_val wn rfl (rv_move rfl) ?_
                  refine wl_val wn rfl (rv_move rfl) ?_
                  obtain ⟨x204, hx205, h206⟩ := Option.bind_eq_some_iff.1 h203
                  refine wl_indexAddr (t := tStr) wn rfl Try.underlying26 tf9 rfl rfl (SliceAt.mono hl184 hs168) hx205 ?_
                  intro b207 o208 u209 hu210 ha211
                  obtain ⟨rfl, hl212⟩ := hu210
                  have ha213 : AtK _ b207 o208 [sv x204] := ha211
                  refine wl_val wn rfl (rv_load1 tf9 rfl hS186 (ha213 0 _ rfl)) ?_
                  obtain ⟨x214, hx215, h216⟩ := Option.bind_eq_some_iff.1 h206
                  refine wl_val wn rfl (rv_ssl_l Try.underlying9 rfl rfl hx215) ?_
                  refine wl_buildSlice (t := tStr) (n := 1) (pv := [(0, sv x214)]) (cs := [sv x214]) (xs := [x214]) wn rfl Try.underlying26 tf9 rfl rfl rfl (by kernel_rfl) rfl rfl (lit_cons (u := sv x214) (z := x214) ⟨rfl, (len_sub hl212 hx215)⟩ lit_nil) hS186 ?_
                  intro a217 w218 K219 hl220 hs221 hS222
                  have hS223 : SH _ _ _ _ _ [_, _, _, _, _, _] := SH.front (p := [_, _, _, _, _]) hS222
                  obtain ⟨x224, hx225, h226⟩ := Option.bind_eq_some_iff.1 h216
                  refine wl_append (t := tStr) wn rfl Try.underlying26 tf9 rfl rfl rfl rfl rfl (SliceAt.mono (hl184.trans hl220) hs172) hs221 hx225 hS223 ?_
                  intro a227 n228 c229 w230 K231 hl232 hs233 hS234
                  refine wl_val wn rfl (rv_assign rfl) ?_
                  refine wl_nil ?_
                  refine qe_seq ?_
                  refine wc_region ?_
                  refine wl_val wn rfl (rv_move rfl) ?_
                  obtain ⟨x235, hx236, h237⟩ := Option.bind_eq_some_iff.1 h226
                  refine wl_sl_l (t := tStr) wn rfl Try.underlying26 tf9 rfl rfl (SliceAt.mono ((hl184.trans hl220).trans hl232) hs168) hx236 ?_
                  intro a238 n239 c240 hs241
                  refine wl_val wn rfl (rv_assign rfl) ?_
                  refine wl_nil ?_
                  refine qe_block ?_
                  obtain rfl := Option.some.inj h237
                  have hS242 : SH _ _ _ _ _ [_, _, _, _, _, _] := SH.front (p := [_, _, _, _, _]) hS234
                  have hS243 : SH _ _ _ _ _ [_, _, _, _, _, _] := SH.front (p := [_, _, _, _, _]) hS242
                  have hS244 : SH _ _ _ _ _ [_, _, _, _, _, _] := SH.front (p := [_, _, _, _, _]) hS243
                  have hS245 : SH _ _ _ _ _ [_, _, _, _, _, _] := SH.front (p := [_, _, _, _, _]) hS244
                  have hS246 : SH _ _ _ _ _ [_, _, _, _, _] := SH.sublist hS245 (.cons_cons _ (.cons_cons _ (.cons_cons _ (.cons_cons _ (.cons_cons _ (.cons _ .slnil))))))
                  exact qe_mid' ⟨_, rfl, a238, n239, c240, a227, n228, c229, K231, rfl, hS246, (((hl162.trans hl184).trans hl220).trans hl232), hs241, hs233⟩ ⟨rfl, rfl, rfl, rfl, rfl, trivial⟩
                · have h203 := cond_f hb202 h182
                  refine wc_exit ?_
                  refine qe_then_exit ?_
                  refine qe_then_exit ?_
                  obtain rfl := Option.some.inj h203
                  have e247 := hx179 _ rfl
                  subst e247
                  refine qe_block_eq ?_
                  obtain rfl := Option.some.inj h160
                  exact qe_mid' ⟨a165, n166, c167, a169, n170, c171, K183, rfl, hS186, (hl162.trans hl184), (SliceAt.mono hl184 hs168), (SliceAt.mono hl184 hs172)⟩ ⟨rfl, rfl, rfl, rfl, rfl, trivial⟩
            · rintro _ w147 ⟨a149, n150, c151, a153, n154, c155, K145, rfl, hS148, hl146, hs152, hs156⟩
              refine qe_seq ?_
              refine wc_held (fun w' => Holds K145 w') (fun w' => HasObj g16 [.bool s97.2.2.Final, .int .i64 s97.2.2.Many, .slice a114 n115 c116] w') 10 [(1, 8), (1, 9), (1, 10), (8, 9), (8, 10), (9, 10)] mixed ?_
              have hS249 := SH.drew hS148
              refine wg_val (i := 0) (listed' := #[true, false, false, false, false, false, false, false, false, false, false]) (fun _ => True) rfl (by kernel_rfl) (pk_block (pk_then (pk_block (pk_then (pk_then pk_body))))) (by kernel_rfl) rfl (by kernel_rfl) (by kernel_rfl) rfl (.inl fun _ _ => trivial) ⟨(hS249.hasK (KLe.refl _)), (fun _ => hS249.hasObj (.tail _ (.tail _ (.head _)))), by decide⟩ wn rfl (fun _ _ => (rv_fieldAddr ff33_2 rfl)) ?_
              refine wg_val (i := 1) (listed' := #[true, true, false, false, false, false, false, false, false, false, false]) (HasObj g16 [.bool s97.2.2.Final, .int .i64 s97.2.2.Many, .slice a114 n115 c116]) rfl (by kernel_rfl) (pk_block (pk_then (pk_block (pk_then (pk_then pk_body))))) (by kernel_rfl) rfl (by kernel_rfl) (by kernel_rfl) rfl (.inr ⟨rfl, fun _ _ h => h⟩) ⟨(hS249.hasK (KLe.refl _)), (fun _ => hS249.hasObj (.tail _ (.tail _ (.head _)))), by decide⟩ wn rfl (fun _ h => rh_loadm1 tf31 rfl rfl h) ?_
              refine wg_val (i := 2) (listed' := #[true, true, true, false, false, false, false, false, false, false, false]) (fun _ => True) rfl (by kernel_rfl) (pk_block (pk_then (pk_block (pk_then (pk_then pk_body))))) (by kernel_rfl) rfl (by kernel_rfl) (by kernel_rfl) rfl (.inl fun _ _ => trivial) ⟨(hS249.hasK (KLe.refl _)), (fun _ => hS249.hasObj (.tail _ (.tail _ (.head _)))), by decide⟩ wn rfl (fun _ _ => (rv_move rfl)) ?_
              refine wg_val (i := 3) (listed' := #[true, true, true, true, false, false, false, false, false, false, false]) (fun _ => True) rfl (by kernel_rfl) (pk_block (pk_then (pk_block (pk_then (pk_then pk_body))))) (by kernel_rfl) rfl (by kernel_rfl) (by kernel_rfl) rfl (.inl fun _ _ => trivial) ⟨(hS249.hasK (KLe.refl _)), (fun _ => hS249.hasObj (.tail _ (.tail _ (.head _)))), by decide⟩ wn rfl (fun _ _ => (rv_move rfl)) ?_
              refine wg_val (i := 4) (listed' := #[true, true, true, true, true, false, false, false, false, false, false]) (fun _ => True) rfl (by kernel_rfl) (pk_block (pk_then (pk_block (pk_then (pk_then pk_body))))) (by kernel_rfl) rfl (by kernel_rfl) (by kernel_rfl) rfl (.inl fun _ _ => trivial) ⟨(hS249.hasK (KLe.refl _)), (fun _ => hS249.hasObj (.tail _ (.tail _ (.head _)))), by decide⟩ wn rfl (fun _ _ => (rv_move rfl)) ?_
              refine wg_one (i := 5) (by kernel_rfl) rfl ?_
              obtain ⟨r251, hx252, h253⟩ := Option.bind_eq_some_iff.1 h144
              have hS254 : SH _ _ _ _ _ [_, _, _, _, _] := SH.front (p := [_]) hS249
              have hS255 : SH _ _ _ _ _ [_, _, _, _, _] := SH.front (p := [_]) hS254
              refine wl_call wn rfl (rt_call (vs := [.pointer (some ⟨g1, 0, none⟩), .slice a153 n154 c155]) co53 rfl) (ih (SH.enter (Lin := [_, _]) hS255) (SliceAt.mono (hl139.trans hl146) hs112) hs156 hx252) ?_
              rintro e264 w257 ⟨a260, n261, c262, K256, rfl, hS258, hr259, hs263⟩
              refine ⟨_, rfl, ?_⟩
              have hS265 : SH _ _ _ _ _ [_, _, _, _, _] := SH.call (Lin := [_, _]) hS255 hS258
              refine wl_nil (qe_held (listed' := #[true, true, true, true, true, true, false, false, false, false, false]) rfl ⟨(hS265.hasK hS258.le), (fun _ => hS265.hasObj (.tail _ (.tail _ (.head _)))), by decide⟩ ?_)
              refine wg_val (i := 6) (listed' := #[true, true, true, true, true, true, true, false, false, false, false]) (fun _ => True) rfl (by kernel_rfl) (pk_block (pk_then (pk_block (pk_then (pk_then pk_body))))) (by kernel_rfl) rfl (by kernel_rfl) (by kernel_rfl) rfl (.inl fun _ _ => trivial) ⟨(hS265.hasK hS258.le), (fun _ => hS265.hasObj (.tail _ (.tail _ (.head _)))), by decide⟩ wn rfl (fun _ _ => (rv_build (cs := #[iv8 x133, .int .i64 r251.1]) sp35 tf35 rfl (by kernel_rfl))) ?_
              refine wg_one (i := 7) (by kernel_rfl) rfl ?_
              refine wl_buildSlice (t := tGArc) (n := 1) (pv := [(0, .agg #[iv8 x133, .int .i64 r251.1])]) (cs := [iv8 x133, .int .i64 r251.1]) (xs := [(GArc.mk x133 r251.1)]) wn rfl Try.underlying31 tf35 rfl rfl rfl (by kernel_rfl) rfl rfl (lit_cons (u := .agg #[iv8 x133, .int .i64 r251.1]) (z := (GArc.mk x133 r251.1)) ⟨rfl, hr259⟩ lit_nil) hS265 ?_
              intro a266 w267 K268 hl269 hs270 hS271
              refine wl_nil (qe_held (listed' := #[true, true, true, true, true, true, true, true, false, false, false]) rfl ⟨(hS271.hasK (hS258.le.trans hl269)), (fun _ => hS271.hasObj (.tail _ (.tail _ (.tail _ (.head _))))), by decide⟩ ?_)
              refine wg_one (i := 8) (by kernel_rfl) rfl ?_
              have hS272 : SH _ _ _ _ _ [_, _, _, _, _, _] := SH.front (p := [_, _, _, _]) hS271
              obtain ⟨x273, hx274, h275⟩ := Option.bind_eq_some_iff.1 h253
              refine wl_append (t := tGArc) wn rfl Try.underlying31 tf35 rfl rfl rfl rfl rfl (SliceAt.mono (((hl139.trans hl146).trans hS258.le).trans hl269) hs117) hs270 hx274 hS272 ?_
              intro a276 n277 c278 w279 K280 hl281 hs282 hS283
              refine wl_nil (qe_held (listed' := #[true, true, true, true, true, true, true, true, true, false, false]) rfl ⟨(hS283.hasK ((hS258.le.trans hl269).trans hl281)), (fun _ => hS283.hasObj (.tail _ (.tail _ (.tail _ (.tail _ (.head _)))))), by decide⟩ ?_)
              refine wg_val (i := 9) (listed' := #[true, true, true, true, true, true, true, true, true, true, false]) (fun _ => True) rfl (by kernel_rfl) (pk_block (pk_then (pk_block (pk_then (pk_then pk_body))))) (by kernel_rfl) rfl (by kernel_rfl) (by kernel_rfl) rfl (.inl fun _ _ => trivial) ⟨(hS283.hasK ((hS258.le.trans hl269).trans hl281)), (fun _ => hS283.hasObj (.tail _ (.tail _ (.tail _ (.tail _ (.head _)))))), by decide⟩ wn rfl (fun _ _ => (rv_fieldAddr ff33_2 rfl)) ?_
              refine wg_one (i := 10) (by kernel_rfl) rfl ?_
              have hS284 : SH _ _ _ _ _ [_, _, _, _, _, _] := SH.front (p := [_, _, _, _]) hS283
              refine wl_store (cs' := [.bool s97.2.2.Final, .int .i64 s97.2.2.Many, .slice a276 n277 c278]) (v := .slice a276 n277 c278) wn tf31 rfl rfl rfl (by simp [Value.cells, Value.oneCell']) hS284 rfl rfl ?_
              intro w285 hS286
              refine wl_nil (qe_held (listed' := #[true, true, true, true, true, true, true, true, true, true, true]) rfl ⟨(hS286.hasK ((hS258.le.trans hl269).trans hl281)), (fun h => by cases h), by decide⟩ ?_)
              refine wg_done (by kernel_rfl) ?_
              refine qe_block ?_
              obtain rfl := Option.some.inj h275
              have hS287 : SH _ _ _ _ _ [_, _, _, _, _, _] := SH.front (p := [_]) hS286
              have hS288 : SH _ _ _ _ _ [_, _, _, _, _, _] := SH.front (p := [_]) hS287
              have hS289 : SH _ _ _ _ _ [_, _, _, _, _, _] := SH.front (p := [_, _, _, _]) hS288
              have hS290 : SH _ _ _ _ _ [_, _, _, _, _, _] := SH.front (p := [_, _, _, _]) hS289
              have hS291 : SH _ _ _ _ _ [_, _, _, _] := SH.sublist hS290 (.cons_cons _ (.cons_cons _ (.cons_cons _ (.cons_cons _ (.cons _ (.cons _ .slnil))))))
              exact qe_mid' ⟨_, rfl, a149, n150, c151, a260, n261, c262, a276, n277, c278, K280, rfl, hS291, (((((hl102.trans hl139).trans hl146).trans hS258.le).trans hl269).trans hl281), (SliceAt.mono ((hS258.le.trans hl269).trans hl281) hs152), (SliceAt.mono (hl269.trans hl281) hs263), hr113, hs282⟩ ⟨rfl, rfl, rfl, trivial⟩
          · have h122 := cond_f hb121 h119
            refine wc_exit ?_
            refine qe_then_exit ?_
            refine qe_then_exit ?_
            obtain rfl := Option.some.inj h122
            have e292 := hx120 _ rfl
            subst e292
            refine qe_block_eq ?_
            obtain rfl := Option.some.inj h100
            exact qe_mid' ⟨a109, n110, c111, a114, n115, c116, K101, rfl, hS104, hl102, hs112, hr113, hs117⟩ ⟨rfl, rfl, trivial⟩
        · rintro _ w86 ⟨a88, n89, c90, a93, n94, c95, K84, rfl, hS87, hl85, hs91, hr92, hs96⟩
          refine qe_seq ?_
          refine wc_seq ?_
          refine wc_seq ?_
          refine wc_region ?_
          refine wl_val wn rfl (rv_move rfl) ?_
          refine wl_val wn rfl (rv_nilCheck rfl) ?_
          refine wl_val wn rfl (rv_fieldAddr ff68_0 rfl) ?_
          refine wl_val wn rfl (rv_loadm1 tf28 rfl (.head _) hS87 rfl) ?_
          refine wl_val wn rfl (rv_len (t := tGState) Try.underlying28 rfl hs91) ?_
          refine wl_val wn rfl (rv_move (v := .int .i64 0) rfl) ?_
          refine wl_nil ?_
          refine qe_seq ?_
          obtain ⟨o293, h294, h295⟩ := Option.bind_eq_some_iff.1 h83
          refine wc_cutg (fun E' w' => ∃ (s296 : Unit) (K297 : KMap), o293 = .inl s296 ∧ E' = [(0, .pointer (some ⟨g1, 0, none⟩)), (5, .pointer (some ⟨g16, 0, none⟩))] ∧ SH w K (List.filterMap Item.g [obj g1 [.slice a2 n3 c4] 68, tail (.slice a2 n3 c4) 33 3]) w' K297 [obj g1 [.slice a88 n89 c90] 68, tail (.slice a88 n89 c90) 33 3, obj g16 [.bool o81.2.Final, .int .i64 o81.2.Many, .slice a93 n94 c95] 33, tail (.slice a93 n94 c95) 35 2] ∧ KLe K84 K297) ?_ ?_
          · refine wc_block ?_
            obtain ⟨r302, h303, h304⟩ := Option.bind_eq_some_iff.1 h294
            refine wc_for' (fun (i305 : Nat) (s301 : Unit) E' w' => ∃ (K306 : KMap), E' = [(0, .pointer (some ⟨g1, 0, none⟩)), (5, .pointer (some ⟨g16, 0, none⟩)), (67, .slice a88 n89 c90), (68, .int .i64 (o81.1.states_.length : Int)), (69, .int .i64 ((i305 : Nat) : Int))] ∧ SH w K (List.filterMap Item.g [obj g1 [.slice a2 n3 c4] 68, tail (.slice a2 n3 c4) 33 3]) w' K306 [obj g1 [.slice a88 n89 c90] 68, tail (.slice a88 n89 c90) 33 3, obj g16 [.bool o81.2.Final, .int .i64 o81.2.Many, .slice a93 n94 c95] 33, tail (.slice a93 n94 c95) 35 2] ∧ KLe K84 K306) h303 ⟨K84, rfl, hS87, (KLe.refl _)⟩ ⟨rfl, rfl, rfl, rfl, rfl, trivial⟩ ?_ ?_
            · rintro i305 s301 _ w308 r310 hi311 h312 hx313 ⟨K306, rfl, hS309, hl307⟩
              refine wc_seq (wc_region ?_)
              refine wl_val wn rfl (rv_lss rfl rfl) ?_
              refine wl_nil (qe_seq (wc_seq ?_))
              refine wc_cond_t rfl (decide_eq_true (by omega)) (wc_skip (qe_seq (wc_seq ?_)))
              refine wc_block ?_
              refine wc_seq ?_
              refine wc_region ?_
              refine wl_val wn rfl (rv_move rfl) ?_
              obtain ⟨x314, hx315, h316⟩ := Option.bind_eq_some_iff.1 h312
              refine wl_indexAddr (t := tGState) wn rfl Try.underlying28 tf33 rfl rfl (SliceAt.mono hl307 hs91) hx315 ?_
              intro b317 o318 u319 hu320 ha321
              obtain ⟨a323, n324, c325, rfl, hr322, hs326⟩ := hu320
              have ha327 : AtK _ b317 o318 [.bool x314.Final, .int .i64 x314.Many, .slice a323 n324 c325] := ha321
              refine wl_val wn rfl (rv_loadS (cs := [.bool x314.Final, .int .i64 x314.Many, .slice a323 n324 c325]) tf33 rfl hS309 ha327 rfl) ?_
              refine wl_alloc wn rfl tf33 hS309 ?_
              intro g328 w329 hS330
              have hS331 : SH _ _ _ _ _ [obj g328 [.bool false, .int .i64 0, .slice none 0 0] 33, _, _, _, _] := hS330
              refine wl_val wn rfl (rv_assign rfl) ?_
              refine wl_store (cs' := [.bool x314.Final, .int .i64 x314.Many, .slice a323 n324 c325]) (v := .agg #[.bool x314.Final, .int .i64 x314.Many, .slice a323 n324 c325]) wn tf33 rfl rfl rfl (by simp [Value.cells, Value.oneCell']) hS331 rfl rfl ?_
              intro w332 hS333
              refine wl_nil ?_
              refine qe_seq ?_
              refine wc_seq ?_
              refine wc_region ?_
              refine wl_val wn rfl (rv_loadmS (ds := [.bool x314.Final, .int .i64 x314.Many, .slice a323 n324 c325]) tf33 rfl (.head _) hS333 rfl rfl) ?_
              refine wl_val wn rfl (rv_loadmS (ds := [.bool o81.2.Final, .int .i64 o81.2.Many, .slice a93 n94 c95]) tf33 rfl (.tail _ (.tail _ (.tail _ (.head _)))) hS333 rfl rfl) ?_
              obtain ⟨r334, hx335, h336⟩ := Option.bind_eq_some_iff.1 h316
              refine wl_call wn rfl (rt_call (vs := [.agg #[.bool x314.Final, .int .i64 x314.Many, .slice a323 n324 c325], .agg #[.bool o81.2.Final, .int .i64 o81.2.Many, .slice a93 n94 c95]]) co76 rfl) ((ok_impl_sameState F) hS333.enter0 hr322 hs326 hr92 (SliceAt.mono hl307 hs96) hx335) ?_
              rintro e340 w338 ⟨K337, rfl, hS339⟩
              refine ⟨_, rfl, ?_⟩
              have hS341 : SH _ _ _ _ _ [_, _, _, _, _] := SH.call0 hS333 hS339
              refine wl_nil ?_
              refine qe_seq ?_
              refine wc_cond rfl (fun hb342 => ?_) (fun hb342 => ?_)
              · have h343 := cond_t hb342 h336
                refine wc_seq ?_
                refine wc_region ?_
                refine wl_val wn rfl (rv_move rfl) ?_
                refine wl_val wn rfl (rv_assign rfl) ?_
                refine wl_nil ?_
                refine qe_seq ?_
                refine wc_ret ?_
                refine qe_block_ret ?_
                refine qe_then_ret ?_
                refine qe_then_ret ?_
                obtain rfl := Option.some.inj h343
                have e344 := hx313 _ rfl
                subst e344
                refine qe_block_ret ?_
                refine qe_then_ret ?_
                obtain rfl := Option.some.inj h304
                refine qe_then_ret ?_
                obtain rfl := Option.some.inj h295
                have hS345 : SH _ _ _ _ _ [_, _] := SH.sublist hS341 (.cons _ (.cons_cons _ (.cons_cons _ (.cons _ (.cons _ .slnil)))))
                exact qe_ret (vs := [_]) Try.results53 ⟨rfl, trivial⟩ ⟨a88, n89, c90, K337, rfl, hS345, (rng_idx hi311 (SliceAt.max hs91)), (SliceAt.mono (hl307.trans hS339.le) hs91)⟩
              · have h343 := cond_f hb342 h336
                refine wc_skip ?_
                refine qe_block ?_
                refine qe_seq (wc_region ?_)
                refine wl_val wn rfl (rv_add_to rfl rfl (w64_succ hi311 (SliceAt.max hs91))) ?_
                refine wl_val wn rfl (rv_move rfl) ?_
                refine wl_nil ?_
                obtain rfl := Option.some.inj h343
                have hS346 : SH _ _ _ _ _ [_, _, _, _] := SH.sublist hS341 (.cons _ (.cons_cons _ (.cons_cons _ (.cons_cons _ (.cons_cons _ .slnil)))))
                exact qe_mid' ⟨_, rfl, K337, rfl, hS346, (hl307.trans hS339.le)⟩ ⟨rfl, rfl, rfl, rfl, rfl, trivial⟩
            · rintro s301 _ w308 hr347 ⟨K306, rfl, hS309, hl307⟩
              subst hr347
              refine wc_seq (wc_region ?_)
              refine wl_val wn rfl (rv_lss rfl rfl) ?_
              refine wl_nil (qe_seq (wc_seq ?_))
              refine wc_cond_f rfl (decide_eq_false (by omega)) ?_
              refine wc_exit ?_
              refine qe_then_exit ?_
              refine qe_then_exit ?_
              refine qe_block_eq ?_
              obtain rfl := Option.some.inj h304
              exact qe_mid' ⟨_, K306, rfl, rfl, hS309, hl307⟩ ⟨rfl, rfl, trivial⟩
          · rintro _ w299 ⟨s296, K297, rfl, rfl, hS300, hl298⟩
            refine qe_seq ?_
            refine wc_seq ?_
            refine wc_held (fun w' => Holds K297 w' ∧ HasObj g16 [.bool o81.2.Final, .int .i64 o81.2.Many, .slice a93 n94 c95] w') (fun w' => HasObj g1 [.slice a88 n89 c90] w') 10 [(4, 7), (4, 8), (4, 9), (4, 10), (7, 8), (7, 9), (7, 10), (8, 9), (9, 10)] mixed ?_
            have hS350 := SH.drew hS300
            refine wg_val (i := 0) (listed' := #[true, false, false, false, false, false, false, false, false, false, false]) (fun _ => True) rfl (by kernel_rfl) (pk_then pk_body) (by kernel_rfl) rfl (by kernel_rfl) (by kernel_rfl) rfl (.inl fun _ _ => trivial) ⟨⟨hS350.hasK (KLe.refl _), hS350.hasObj (.tail _ (.tail _ (.head _)))⟩, (fun _ => hS350.hasObj (.head _)), by decide⟩ wn rfl (fun _ _ => (rv_move rfl)) ?_
            refine wg_val (i := 1) (listed' := #[true, true, false, false, false, false, false, false, false, false, false]) (fun _ => True) rfl (by kernel_rfl) (pk_then pk_body) (by kernel_rfl) rfl (by kernel_rfl) (by kernel_rfl) rfl (.inl fun _ _ => trivial) ⟨⟨hS350.hasK (KLe.refl _), hS350.hasObj (.tail _ (.tail _ (.head _)))⟩, (fun _ => hS350.hasObj (.head _)), by decide⟩ wn rfl (fun _ _ => (rv_move rfl)) ?_
            refine wg_val (i := 2) (listed' := #[true, true, true, false, false, false, false, false, false, false, false]) (fun _ => True) rfl (by kernel_rfl) (pk_then pk_body) (by kernel_rfl) rfl (by kernel_rfl) (by kernel_rfl) rfl (.inl fun _ _ => trivial) ⟨⟨hS350.hasK (KLe.refl _), hS350.hasObj (.tail _ (.tail _ (.head _)))⟩, (fun _ => hS350.hasObj (.head _)), by decide⟩ wn rfl (fun _ _ => (rv_nilCheck rfl)) ?_
            refine wg_val (i := 3) (listed' := #[true, true, true, true, false, false, false, false, false, false, false]) (fun _ => True) rfl (by kernel_rfl) (pk_then pk_body) (by kernel_rfl) rfl (by kernel_rfl) (by kernel_rfl) rfl (.inl fun _ _ => trivial) ⟨⟨hS350.hasK (KLe.refl _), hS350.hasObj (.tail _ (.tail _ (.head _)))⟩, (fun _ => hS350.hasObj (.head _)), by decide⟩ wn rfl (fun _ _ => (rv_fieldAddr ff68_0 rfl)) ?_
            refine wg_val (i := 4) (listed' := #[true, true, true, true, true, false, false, false, false, false, false]) (HasObj g1 [.slice a88 n89 c90]) rfl (by kernel_rfl) (pk_then pk_body) (by kernel_rfl) rfl (by kernel_rfl) (by kernel_rfl) rfl (.inr ⟨rfl, fun _ _ h => h⟩) ⟨⟨hS350.hasK (KLe.refl _), hS350.hasObj (.tail _ (.tail _ (.head _)))⟩, (fun _ => hS350.hasObj (.head _)), by decide⟩ wn rfl (fun _ h => rh_loadm1 tf28 rfl rfl h) ?_
            refine wg_val (i := 5) (listed' := #[true, true, true, true, true, true, false, false, false, false, false]) (HasObj g16 [.bool o81.2.Final, .int .i64 o81.2.Many, .slice a93 n94 c95]) rfl (by kernel_rfl) (pk_then pk_body) (by kernel_rfl) rfl (by kernel_rfl) (by kernel_rfl) rfl (.inl fun _ h => h.2) ⟨⟨hS350.hasK (KLe.refl _), hS350.hasObj (.tail _ (.tail _ (.head _)))⟩, (fun _ => hS350.hasObj (.head _)), by decide⟩ wn rfl (fun _ h => rh_loadmS (ds := [.bool o81.2.Final, .int .i64 o81.2.Many, .slice a93 n94 c95]) tf33 rfl rfl rfl h) ?_
            refine wg_one (i := 6) (by kernel_rfl) rfl ?_
            refine wl_buildSlice (t := tGState) (n := 1) (pv := [(0, .agg #[.bool o81.2.Final, .int .i64 o81.2.Many, .slice a93 n94 c95])]) (cs := [.bool o81.2.Final, .int .i64 o81.2.Many, .slice a93 n94 c95]) (xs := [o81.2]) wn rfl Try.underlying28 tf33 rfl rfl rfl (by kernel_rfl) rfl rfl (lit_cons (u := .agg #[.bool o81.2.Final, .int .i64 o81.2.Many, .slice a93 n94 c95]) (z := o81.2) ⟨a93, n94, c95, rfl, hr92, (SliceAt.mono hl298 hs96)⟩ lit_nil) hS350 ?_
            intro a352 w353 K354 hl355 hs356 hS357
            refine wl_nil (qe_held (listed' := #[true, true, true, true, true, true, true, false, false, false, false]) rfl ⟨⟨hS357.hasK hl355, hS357.hasObj (.tail _ (.tail _ (.tail _ (.head _))))⟩, (fun _ => hS357.hasObj (.tail _ (.head _))), by decide⟩ ?_)
            refine wg_one (i := 7) (by kernel_rfl) rfl ?_
            have hS358 : SH _ _ _ _ _ [_, _, _, _, _] := SH.front (p := [_, _]) hS357
            obtain ⟨x359, hx360, h361⟩ := Option.bind_eq_some_iff.1 h295
            refine wl_append (t := tGState) wn rfl Try.underlying28 tf33 rfl rfl rfl rfl rfl (SliceAt.mono (hl298.trans hl355) hs91) hs356 hx360 hS358 ?_
            intro a362 n363 c364 w365 K366 hl367 hs368 hS369
            refine wl_nil (qe_held (listed' := #[true, true, true, true, true, true, true, true, false, false, false]) rfl ⟨⟨hS369.hasK (hl355.trans hl367), hS369.hasObj (.tail _ (.tail _ (.tail _ (.head _))))⟩, (fun _ => hS369.hasObj (.tail _ (.tail _ (.head _)))), by decide⟩ ?_)
            refine wg_val (i := 8) (listed' := #[true, true, true, true, true, true, true, true, true, false, false]) (fun _ => True) rfl (by kernel_rfl) (pk_then pk_body) (by kernel_rfl) rfl (by kernel_rfl) (by kernel_rfl) rfl (.inl fun _ _ => trivial) ⟨⟨hS369.hasK (hl355.trans hl367), hS369.hasObj (.tail _ (.tail _ (.tail _ (.head _))))⟩, (fun _ => hS369.hasObj (.tail _ (.tail _ (.head _)))), by decide⟩ wn rfl (fun _ _ => (rv_nilCheck rfl)) ?_
            refine wg_val (i := 9) (listed' := #[true, true, true, true, true, true, true, true, true, true, false]) (fun _ => True) rfl (by kernel_rfl) (pk_then pk_body) (by kernel_rfl) rfl (by kernel_rfl) (by kernel_rfl) rfl (.inl fun _ _ => trivial) ⟨⟨hS369.hasK (hl355.trans hl367), hS369.hasObj (.tail _ (.tail _ (.tail _ (.head _))))⟩, (fun _ => hS369.hasObj (.tail _ (.tail _ (.head _)))), by decide⟩ wn rfl (fun _ _ => (rv_fieldAddr ff68_0 rfl)) ?_
            refine wg_one (i := 10) (by kernel_rfl) rfl ?_
            have hS370 : SH _ _ _ _ _ [_, _, _, _, _] := SH.front (p := [_, _]) hS369
            refine wl_store (cs' := [.slice a362 n363 c364]) (v := .slice a362 n363 c364) wn tf28 rfl rfl rfl (by simp [Value.cells, Value.oneCell']) hS370 rfl rfl ?_
            intro w371 hS372
            refine wl_nil (qe_held (listed' := #[true, true, true, true, true, true, true, true, true, true, true]) rfl ⟨⟨hS372.hasK (hl355.trans hl367), hS372.hasObj (.tail _ (.tail _ (.tail _ (.head _))))⟩, (fun h => by cases h), by decide⟩ ?_)
            refine wg_done (by kernel_rfl) ?_
            refine qe_seq ?_
            refine wc_seq ?_
            refine wc_region ?_
            refine wl_val wn rfl (rv_move rfl) ?_
            refine wl_val wn rfl (rv_nilCheck rfl) ?_
            refine wl_val wn rfl (rv_fieldAddr ff68_0 rfl) ?_
            refine wl_val wn rfl (rv_loadm1 tf28 rfl (.head _) hS372 rfl) ?_
            refine wl_val wn rfl (rv_len (t := tGState) Try.underlying28 rfl hs368) ?_
            refine wl_val wn rfl (rv_sub rfl rfl) ?_
            refine wl_val wn rfl (rv_assign rfl) ?_
            refine wl_nil ?_
            refine qe_seq ?_
            refine wc_ret ?_
            obtain rfl := Option.some.inj h361
            have hS373 : SH _ _ _ _ _ [_, _] := SH.sublist hS372 (.cons_cons _ (.cons_cons _ (.cons _ (.cons _ (.cons _ .slnil)))))
            exact qe_ret (vs := [_]) Try.results53 ⟨rfl, trivial⟩ ⟨a362, n363, c364, K366, rfl, hS373, (w64_rng _), hs368⟩

theorem ok_impl_DawgOf (F : Nat) {w : World} {K : KMap} {a1 : Option Addr} {n2 c3 : Nat} {p0_words : List Str} {r : (List GState)} (hS : SH w K [] w K []) (hs4 : SliceAt tStr K a1 n2 c3 p0_words) (hm : M.impl_DawgOf F p0_words = some r) :
    Calls Try.prog 19 #[.slice a1 n2 c3] w fun e w' => ∃ (a_1 : Option Addr) (n_2 c_3 : Nat) (K' : KMap), e = .returned (.slice a_1 n_2 c_3) ∧ SH w K [] w' K' [tail (.slice a_1 n_2 c_3) 33 3] ∧ SliceAt tGState K' a_1 n_2 c_3 r := by
  rw [M.impl_DawgOf] at hm
  refine calls_in Try.func19 rfl Try.ntmps19 rfl ?_
  refine wc_seq ?_
  refine wc_region ?_
  refine wl_val wn rfl (rv_assign (v := .slice none 0 0) rfl) ?_
  refine wl_nil ?_
  refine qe_seq ?_
  refine wc_seq ?_
  refine wc_seq ?_
  refine wc_region ?_
  refine wl_val wn rfl (rv_move rfl) ?_
  obtain ⟨r5, hx6, h7⟩ := Option.bind_eq_some_iff.1 hm
  refine wl_call wn rfl (rt_call (vs := [.slice a1 n2 c3]) co30 rfl) ((ok_impl_WordsUp F) hS.enter0 hs4 hx6) ?_
  rintro e11 w9 ⟨K8, rfl, hS10⟩
  refine ⟨_, rfl, ?_⟩
  have hS12 : SH _ _ _ _ _ [] := SH.call0 hS hS10
  refine wl_val wn rfl (rv_not rfl) ?_
  refine wl_nil ?_
  refine qe_seq ?_
  refine wc_cond rfl (fun hb13 => ?_) (fun hb13 => ?_)
  · have h14 := cond_t hb13 h7
    refine wc_seq ?_
    refine wc_region ?_
    refine wl_buildSlice0 tGState wn rfl Try.underlying28 tf33 hS12 ?_
    intro a15 w16 K17 hl18 hs19 hS20
    refine wl_val wn rfl (rv_assign rfl) ?_
    refine wl_nil ?_
    refine qe_seq ?_
    refine wc_ret ?_
    refine qe_then_ret ?_
    obtain rfl := Option.some.inj h14
    exact qe_ret (vs := [_]) Try.results19 ⟨rfl, trivial⟩ ⟨a15, 0, 0, K17, rfl, hS20, hs19⟩
  · have h14 := cond_f hb13 h7
    refine wc_skip ?_
    refine qe_seq ?_
    refine wc_seq ?_
    refine wc_region ?_
    refine wl_buildSlice0 tGState wn rfl Try.underlying28 tf33 hS12 ?_
    intro a21 w22 K23 hl24 hs25 hS26
    refine wl_val wn rfl (rv_build (cs := #[.slice a21 0 0]) sp68 tf68 rfl (by kernel_rfl)) ?_
    refine wl_box wn rfl rfl hS26 ?_
    intro g27 w28 hS29
    have hS30 : SH _ _ _ _ _ [obj g27 [.slice a21 0 0] 68, _] := hS29
    refine wl_val wn rfl (rv_assign rfl) ?_
    refine wl_nil ?_
    refine qe_seq ?_
    refine wc_seq ?_
    refine wc_region ?_
    refine wl_val wn rfl (rv_move rfl) ?_
    refine wl_val wn rfl (rv_move rfl) ?_
    obtain ⟨r31, hx32, h33⟩ := Option.bind_eq_some_iff.1 h14
    have hS34 : SH _ _ _ _ _ [_, _] := SH.front (p := [_]) hS30
    have hS35 : SH _ _ _ _ _ [_, _] := SH.front (p := [_]) hS34
    refine wl_call wn rfl (rt_call (vs := [.pointer (some ⟨g27, 0, none⟩), .slice a1 n2 c3]) co53 rfl) ((ok_impl_dawg_put F) (SH.enter (Lin := [_, _]) hS35) hs25 (SliceAt.mono (hS10.le.trans hl24) hs4) hx32) ?_
    rintro e44 w37 ⟨a40, n41, c42, K36, rfl, hS38, hr39, hs43⟩
    refine ⟨_, rfl, ?_⟩
    have hS45 : SH _ _ _ _ _ [_, _] := SH.call (Lin := [_, _]) hS35 hS38
    refine wl_nil ?_
    refine qe_seq ?_
    refine wc_seq ?_
    refine wc_region ?_
    refine wl_val wn rfl (rv_move rfl) ?_
    refine wl_val wn rfl (rv_nilCheck rfl) ?_
    refine wl_val wn rfl (rv_fieldAddr ff68_0 rfl) ?_
    refine wl_val wn rfl (rv_loadm1 tf28 rfl (.head _) hS45 rfl) ?_
    refine wl_val wn rfl (rv_assign rfl) ?_
    refine wl_nil ?_
    refine qe_seq ?_
    refine wc_ret ?_
    obtain rfl := Option.some.inj h33
    have hS46 : SH _ _ _ _ _ [_] := SH.sublist hS45 (.cons _ (.cons_cons _ .slnil))
    exact qe_ret (vs := [_]) Try.results19 ⟨rfl, trivial⟩ ⟨a40, n41, c42, K36, rfl, hS46, hs43⟩
end Go.Proofs.Ytdopcpaapniioaa
