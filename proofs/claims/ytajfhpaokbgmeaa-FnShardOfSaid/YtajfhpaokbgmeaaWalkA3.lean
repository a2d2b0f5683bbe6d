/-
  Walks of the functions. Printed by gen.py.
-/
import Derived.Test.YtajfhpaokbgmeaaWalkA2
set_option linter.unusedVariables false
set_option maxRecDepth 100000
namespace Go.Proofs.Ytajfhpaokbgmeaa
open Go Go.Fk Go.RowKit

theorem ok_spec_l1Fold (F : Nat) {w : World} {K : KMap} {p0_b : UInt8} {r : UInt8} (hS : SH w K [] w K []) (hm : M.spec_l1Fold F p0_b = some r) :
    Calls Try.prog 125 #[iv8 p0_b] w fun e w' => ∃ (K' : KMap), e = .returned (iv8 r) ∧ SH w K [] w' K' [] := by
  rw [M.spec_l1Fold] at hm
  refine calls_in Try.func125 rfl Try.ntmps125 rfl ?_
  refine wc_seq ?_
  refine wc_region ?_
  refine wl_val wn rfl (rv_assign (v := iv8 0) rfl) ?_
  refine wl_nil ?_
  refine qe_seq ?_
  refine wc_seq ?_
  refine wc_block ?_
  refine wc_seq ?_
  obtain ⟨o1, h2, h3⟩ := Option.bind_eq_some_iff.1 hm
  refine wc_cutg (fun E' w' => ∃ (K4 : KMap), E' = [(0, iv8 p0_b), (3, .bool o1)] ∧ SH w K [] w' K4 [] ∧ KLe K K4) ?_ ?_
  · refine wc_region ?_
    refine wl_val wn rfl (rv_move rfl) ?_
    refine wl_val wn rfl (rv_bge (b := (65 : UInt8)) rfl rfl) ?_
    refine wl_val wn rfl (rv_move rfl) ?_
    rcases bool_tf (decide ((65 : UInt8) ≤ p0_b)) with hb8 | hb8
    · have h9 := cond_t hb8 h2
      refine wl_val (wg rfl rfl hb8) rfl (rv_move rfl) ?_
      refine wl_val (wg rfl rfl hb8) rfl (rv_ble (b := (90 : UInt8)) rfl rfl) ?_
      refine wl_val wn rfl (rv_pick_t rfl hb8 rfl) ?_
      refine wl_val wn rfl (rv_assign rfl) ?_
      refine wl_nil ?_
      obtain rfl := Option.some.inj h9
      exact qe_mid' ⟨K, rfl, hS, (KLe.refl _)⟩ ⟨rfl, rfl, trivial⟩
    · have h9 := cond_f hb8 h2
      refine wl_un (ug rfl rfl hb8) rfl ?_
      refine wl_un (ug rfl rfl hb8) rfl ?_
      refine wl_val wn rfl (rv_pick_f (v := .bool false) rfl hb8 rfl) ?_
      refine wl_val wn rfl (rv_assign rfl) ?_
      refine wl_nil ?_
      obtain rfl := Option.some.inj h9
      exact qe_mid' ⟨K, rfl, hS, (KLe.refl _)⟩ ⟨rfl, rfl, trivial⟩
  · rintro _ w6 ⟨K4, rfl, hS7, hl5⟩
    refine qe_seq ?_
    refine wc_cond rfl (fun hb10 => ?_) (fun hb10 => ?_)
    · have h11 := cond_t hb10 h3
      refine wc_seq ?_
      refine wc_region ?_
      refine wl_val wn rfl (rv_move rfl) ?_
      refine wl_val wn rfl (rv_badd (b := (32 : UInt8)) rfl rfl) ?_
      refine wl_val wn rfl (rv_assign rfl) ?_
      refine wl_nil ?_
      refine qe_seq ?_
      refine wc_ret ?_
      refine qe_block_ret ?_
      refine qe_then_ret ?_
      obtain rfl := Option.some.inj h11
      exact qe_ret (vs := [_]) Try.results125 ⟨rfl, trivial⟩ ⟨K4, rfl, hS7⟩
    · have h11 := cond_f hb10 h3
      refine wc_seq ?_
      obtain ⟨o12, h13, h14⟩ := Option.bind_eq_some_iff.1 h11
      refine wc_cutg (fun E' w' => ∃ (K15 : KMap), E' = [(0, iv8 p0_b), (12, .bool o12)] ∧ SH w K [] w' K15 [] ∧ KLe K4 K15) ?_ ?_
      · refine wc_region ?_
        refine wl_val wn rfl (rv_move rfl) ?_
        refine wl_val wn rfl (rv_bge (b := (97 : UInt8)) rfl rfl) ?_
        refine wl_val wn rfl (rv_move rfl) ?_
        rcases bool_tf (decide ((97 : UInt8) ≤ p0_b)) with hb19 | hb19
        · have h20 := cond_t hb19 h13
          refine wl_val (wg rfl rfl hb19) rfl (rv_move rfl) ?_
          refine wl_val (wg rfl rfl hb19) rfl (rv_ble (b := (122 : UInt8)) rfl rfl) ?_
          refine wl_val wn rfl (rv_pick_t rfl hb19 rfl) ?_
          refine wl_val wn rfl (rv_move rfl) ?_
          rcases bool_tf (decide (p0_b ≤ (122 : UInt8))) with hb21 | hb21
          · have h22 := cond_t hb21 h20
            refine wl_un (ug rfl rfl hb21) rfl ?_
            refine wl_un (ug rfl rfl hb21) rfl ?_
            refine wl_un (ug rfl rfl hb21) rfl ?_
            refine wl_un (uu rfl rfl) rfl ?_
            refine wl_un (uu rfl rfl) rfl ?_
            refine wl_un (ug rfl rfl hb21) rfl ?_
            refine wl_val wn rfl (rv_pick_t (v := .bool true) rfl hb21 rfl) ?_
            refine wl_val wn rfl (rv_assign rfl) ?_
            refine wl_nil ?_
            obtain rfl := Option.some.inj h22
            exact qe_mid' ⟨K4, rfl, hS7, (KLe.refl _)⟩ ⟨rfl, rfl, trivial⟩
          · have h22 := cond_f hb21 h20
            refine wl_val (wg rfl rfl hb21) rfl (rv_move rfl) ?_
            refine wl_val (wg rfl rfl hb21) rfl (rv_bge (b := (48 : UInt8)) rfl rfl) ?_
            refine wl_val (wg rfl rfl hb21) rfl (rv_move rfl) ?_
            rcases bool_tf (decide ((48 : UInt8) ≤ p0_b)) with hb23 | hb23
            · have h24 := cond_t hb23 h22
              refine wl_val (wg rfl rfl hb23) rfl (rv_move rfl) ?_
              refine wl_val (wg rfl rfl hb23) rfl (rv_ble (b := (57 : UInt8)) rfl rfl) ?_
              refine wl_val (wg rfl rfl hb21) rfl (rv_pick_t rfl hb23 rfl) ?_
              refine wl_val wn rfl (rv_pick_f rfl hb21 rfl) ?_
              refine wl_val wn rfl (rv_assign rfl) ?_
              refine wl_nil ?_
              obtain rfl := Option.some.inj h24
              exact qe_mid' ⟨K4, rfl, hS7, (KLe.refl _)⟩ ⟨rfl, rfl, trivial⟩
            · have h24 := cond_f hb23 h22
              refine wl_un (ug rfl rfl hb23) rfl ?_
              refine wl_un (ug rfl rfl hb23) rfl ?_
              refine wl_val (wg rfl rfl hb21) rfl (rv_pick_f (v := .bool false) rfl hb23 rfl) ?_
              refine wl_val wn rfl (rv_pick_f rfl hb21 rfl) ?_
              refine wl_val wn rfl (rv_assign rfl) ?_
              refine wl_nil ?_
              obtain rfl := Option.some.inj h24
              exact qe_mid' ⟨K4, rfl, hS7, (KLe.refl _)⟩ ⟨rfl, rfl, trivial⟩
        · have h20 := cond_f hb19 h13
          refine wl_un (ug rfl rfl hb19) rfl ?_
          refine wl_un (ug rfl rfl hb19) rfl ?_
          refine wl_val wn rfl (rv_pick_f (v := .bool false) rfl hb19 rfl) ?_
          refine wl_val wn rfl (rv_move rfl) ?_
          refine wl_val (wg rfl rfl rfl) rfl (rv_move rfl) ?_
          refine wl_val (wg rfl rfl rfl) rfl (rv_bge (b := (48 : UInt8)) rfl rfl) ?_
          refine wl_val (wg rfl rfl rfl) rfl (rv_move rfl) ?_
          rcases bool_tf (decide ((48 : UInt8) ≤ p0_b)) with hb25 | hb25
          · have h26 := cond_t hb25 h20
            refine wl_val (wg rfl rfl hb25) rfl (rv_move rfl) ?_
            refine wl_val (wg rfl rfl hb25) rfl (rv_ble (b := (57 : UInt8)) rfl rfl) ?_
            refine wl_val (wg rfl rfl rfl) rfl (rv_pick_t rfl hb25 rfl) ?_
            refine wl_val wn rfl (rv_pick_f rfl rfl rfl) ?_
            refine wl_val wn rfl (rv_assign rfl) ?_
            refine wl_nil ?_
            obtain rfl := Option.some.inj h26
            exact qe_mid' ⟨K4, rfl, hS7, (KLe.refl _)⟩ ⟨rfl, rfl, trivial⟩
          · have h26 := cond_f hb25 h20
            refine wl_un (ug rfl rfl hb25) rfl ?_
            refine wl_un (ug rfl rfl hb25) rfl ?_
            refine wl_val (wg rfl rfl rfl) rfl (rv_pick_f (v := .bool false) rfl hb25 rfl) ?_
            refine wl_val wn rfl (rv_pick_f rfl rfl rfl) ?_
            refine wl_val wn rfl (rv_assign rfl) ?_
            refine wl_nil ?_
            obtain rfl := Option.some.inj h26
            exact qe_mid' ⟨K4, rfl, hS7, (KLe.refl _)⟩ ⟨rfl, rfl, trivial⟩
      · rintro _ w17 ⟨K15, rfl, hS18, hl16⟩
        refine qe_seq ?_
        refine wc_cond rfl (fun hb27 => ?_) (fun hb27 => ?_)
        · have h28 := cond_t hb27 h14
          refine wc_seq ?_
          refine wc_region ?_
          refine wl_val wn rfl (rv_move rfl) ?_
          refine wl_val wn rfl (rv_assign rfl) ?_
          refine wl_nil ?_
          refine qe_seq ?_
          refine wc_ret ?_
          refine qe_block_ret ?_
          refine qe_then_ret ?_
          obtain rfl := Option.some.inj h28
          exact qe_ret (vs := [_]) Try.results125 ⟨rfl, trivial⟩ ⟨K15, rfl, hS18⟩
        · have h28 := cond_f hb27 h14
          refine wc_skip ?_
          refine qe_block ?_
          refine qe_seq ?_
          refine wc_seq ?_
          refine wc_region ?_
          refine wl_val wn rfl (rv_assign (v := iv8 0) rfl) ?_
          refine wl_nil ?_
          refine qe_seq ?_
          refine wc_ret ?_
          obtain rfl := Option.some.inj h28
          exact qe_ret (vs := [_]) Try.results125 ⟨rfl, trivial⟩ ⟨K15, rfl, hS18⟩

theorem ok_spec_l1WordOk (F : Nat) {w : World} {K : KMap} {p0_s : Str} {r : Bool} (hS : SH w K [] w K []) (hl1 : p0_s.length ≤ maxLen) (hm : M.spec_l1WordOk F p0_s = some r) :
    Calls Try.prog 96 #[sv p0_s] w fun e w' => ∃ (K' : KMap), e = .returned (.bool r) ∧ SH w K [] w' K' [] := by
  rw [M.spec_l1WordOk] at hm
  refine calls_in Try.func96 rfl Try.ntmps96 rfl ?_
  refine wc_seq ?_
  refine wc_region ?_
  refine wl_val wn rfl (rv_assign (v := .bool false) rfl) ?_
  refine wl_nil ?_
  refine qe_seq ?_
  refine wc_seq ?_
  refine wc_seq ?_
  refine wc_region ?_
  refine wl_val wn rfl (rv_assign (v := .int .i64 0) rfl) ?_
  refine wl_nil ?_
  refine qe_seq ?_
  obtain ⟨o2, h3, h4⟩ := Option.bind_eq_some_iff.1 hm
  refine wc_cutg (fun E' w' => ∃ (s5 : Unit) (K6 : KMap), o2 = .inl s5 ∧ E' = [(0, sv p0_s)] ∧ SH w K [] w' K6 [] ∧ KLe K K6) ?_ ?_
  · refine wc_block ?_
    obtain ⟨r11, h12, h13⟩ := Option.bind_eq_some_iff.1 h3
    refine wc_while' (fun (s10 : Int) E' w' => ∃ (K14 : KMap), E' = [(0, sv p0_s), (3, .int .i64 s10)] ∧ SH w K [] w' K14 [] ∧ KLe K K14 ∧ rng64 s10) h12 ⟨K, rfl, hS, (KLe.refl _), (by decide : rng64 0)⟩ ⟨rfl, rfl, trivial⟩ ?_
    rintro s10 _ w16 r19 h20 hx21 ⟨K14, rfl, hS17, hl15, hr18⟩
    refine wc_seq ?_
    refine wc_seq ?_
    refine wc_region ?_
    refine wl_val wn rfl (rv_move rfl) ?_
    refine wl_val wn rfl (rv_move rfl) ?_
    refine wl_val wn rfl (rv_slen Try.underlying9 rfl) ?_
    refine wl_val wn rfl (rv_lss rfl rfl) ?_
    refine wl_nil ?_
    refine qe_seq ?_
    refine wc_cond rfl (fun hb22 => ?_) (fun hb22 => ?_)
    · have h23 := cond_t hb22 h20
      refine wc_skip ?_
      refine qe_seq ?_
      refine wc_seq ?_
      refine wc_block ?_
      refine wc_seq ?_
      obtain ⟨o24, h25, h26⟩ := Option.bind_eq_some_iff.1 h23
      refine wc_cutg (fun E' w' => ∃ (K27 : KMap), E' = [(0, sv p0_s), (3, .int .i64 s10), (23, .bool o24)] ∧ SH w K [] w' K27 [] ∧ KLe K14 K27) ?_ ?_
      · refine wc_quiet mixed (by kernel_rfl) hS17 ?_
        refine wq_val wn rfl (fun _ _ => (rv_move rfl)) ?_
        refine wq_val wn rfl (fun _ _ => (rv_move rfl)) ?_
        obtain ⟨x31, hx32, h33⟩ := Option.bind_eq_some_iff.1 h25
        refine wq_val wn rfl (fun _ _ => (rv_sidx Try.underlying9 rfl rfl hx32)) ?_
        obtain ⟨r34, hx35, h36⟩ := Option.bind_eq_some_iff.1 h33
        refine wq_call (v := iv8 r34) wn rfl (fun _ => rt_call (vs := [iv8 x31]) co125 rfl) (fun w39 ⟨K37, hS38, hl40⟩ => ((ok_spec_l1Fold F) hS38.enter0  hx35).mono fun e w' ⟨K', he, hS'⟩ => ⟨he, K', hS38.call0 hS', hl40.trans hS'.le⟩) ?_
        refine wq_val wn rfl (fun _ _ => (rv_move rfl)) ?_
        refine wq_val wn rfl (fun _ _ => (rv_move rfl)) ?_
        obtain ⟨x41, hx42, h43⟩ := Option.bind_eq_some_iff.1 h36
        refine wq_val wn rfl (fun _ _ => (rv_sidx Try.underlying9 rfl rfl hx42)) ?_
        refine wq_val wn rfl (fun _ _ => (rv_bne rfl rfl)) ?_
        refine wq_val wn rfl (fun _ _ => (rv_move rfl)) ?_
        rcases bool_tf ((!(r34 == x41))) with hb44 | hb44
        · have h45 := cond_t hb44 h43
          refine wq_un (ug rfl rfl hb44) rfl ?_
          refine wq_un (ug rfl rfl hb44) rfl ?_
          refine wq_un (ug rfl rfl hb44) rfl ?_
          refine wq_un (ug rfl rfl hb44) rfl ?_
          refine wq_val wn rfl (fun _ _ => (rv_pick_t (v := .bool true) rfl hb44 rfl)) ?_
          refine wq_nil ?_
          rintro w47 ⟨K46, hS48, hl49⟩
          obtain rfl := Option.some.inj h45
          exact qe_mid' ⟨K46, rfl, hS48, hl49⟩ ⟨rfl, rfl, rfl, trivial⟩
        · have h45 := cond_f hb44 h43
          refine wq_val (wg rfl rfl hb44) rfl (fun _ _ => (rv_move rfl)) ?_
          refine wq_val (wg rfl rfl hb44) rfl (fun _ _ => (rv_move rfl)) ?_
          obtain ⟨x50, hx51, h52⟩ := Option.bind_eq_some_iff.1 h45
          refine wq_val (wg rfl rfl hb44) rfl (fun _ _ => (rv_sidx Try.underlying9 rfl rfl hx51)) ?_
          refine wq_val (wg rfl rfl hb44) rfl (fun _ _ => (rv_beq (b := (0 : UInt8)) rfl rfl)) ?_
          refine wq_val wn rfl (fun _ _ => (rv_pick_f rfl hb44 rfl)) ?_
          refine wq_nil ?_
          rintro w54 ⟨K53, hS55, hl56⟩
          obtain rfl := Option.some.inj h52
          exact qe_mid' ⟨K53, rfl, hS55, hl56⟩ ⟨rfl, rfl, rfl, trivial⟩
      · rintro _ w29 ⟨K27, rfl, hS30, hl28⟩
        refine qe_seq ?_
        refine wc_cond rfl (fun hb57 => ?_) (fun hb57 => ?_)
        · have h58 := cond_t hb57 h26
          refine wc_seq ?_
          refine wc_region ?_
          refine wl_val wn rfl (rv_assign (v := .bool false) rfl) ?_
          refine wl_nil ?_
          refine qe_seq ?_
          refine wc_ret ?_
          refine qe_block_ret ?_
          refine qe_then_ret ?_
          refine qe_then_ret ?_
          obtain rfl := Option.some.inj h58
          have e59 := hx21 _ rfl
          subst e59
          refine qe_block_ret ?_
          refine qe_then_ret ?_
          obtain rfl := Option.some.inj h13
          refine qe_then_ret ?_
          obtain rfl := Option.some.inj h4
          exact qe_ret (vs := [_]) Try.results96 ⟨rfl, trivial⟩ ⟨K27, rfl, hS30⟩
        · have h58 := cond_f hb57 h26
          refine wc_skip ?_
          refine qe_block ?_
          refine qe_seq ?_
          refine wc_region ?_
          refine wl_val wn rfl (rv_move rfl) ?_
          refine wl_val wn rfl (rv_add rfl rfl) ?_
          refine wl_val wn rfl (rv_assign rfl) ?_
          refine wl_nil ?_
          obtain rfl := Option.some.inj h58
          exact qe_mid' ⟨_, rfl, K27, rfl, hS30, (hl15.trans hl28), (w64_rng _)⟩ ⟨rfl, rfl, trivial⟩
    · have h23 := cond_f hb22 h20
      refine wc_exit ?_
      refine qe_then_exit ?_
      refine qe_then_exit ?_
      obtain rfl := Option.some.inj h23
      have e60 := hx21 _ rfl
      subst e60
      refine qe_block_eq ?_
      obtain rfl := Option.some.inj h13
      exact qe_mid' ⟨_, K14, rfl, rfl, hS17, hl15⟩ ⟨rfl, trivial⟩
  · rintro _ w8 ⟨s5, K6, rfl, rfl, hS9, hl7⟩
    refine qe_seq ?_
    refine wc_seq ?_
    refine wc_region ?_
    refine wl_val wn rfl (rv_move rfl) ?_
    refine wl_val wn rfl (rv_slen Try.underlying9 rfl) ?_
    obtain ⟨r63, hx64, h65⟩ := Option.bind_eq_some_iff.1 h4
    refine wl_call wn rfl (rt_call (vs := [.int .i64 (p0_s.length : Int), .int .i64 1, .int .i64 12]) co60 rfl) ((ok_spec_l1In F) hS9.enter0 (rng_nat hl1) (by decide : rng64 1) (by decide : rng64 12) hx64) ?_
    rintro e69 w67 ⟨K66, rfl, hS68⟩
    refine ⟨_, rfl, ?_⟩
    have hS70 : SH _ _ _ _ _ [] := SH.call0 hS9 hS68
    refine wl_val wn rfl (rv_assign rfl) ?_
    refine wl_nil ?_
    refine qe_seq ?_
    refine wc_ret ?_
    obtain rfl := Option.some.inj h65
    exact qe_ret (vs := [_]) Try.results96 ⟨rfl, trivial⟩ ⟨K66, rfl, hS70⟩

theorem ok_spec_l1Text (F : Nat) {w : World} {K : KMap} {p0_s : Str} {r : Bool} (hS : SH w K [] w K []) (hl1 : p0_s.length ≤ maxLen) (hm : M.spec_l1Text F p0_s = some r) :
    Calls Try.prog 128 #[sv p0_s] w fun e w' => ∃ (K' : KMap), e = .returned (.bool r) ∧ SH w K [] w' K' [] := by
  rw [M.spec_l1Text] at hm
  refine calls_in Try.func128 rfl Try.ntmps128 rfl ?_
  refine wc_seq ?_
  refine wc_region ?_
  refine wl_val wn rfl (rv_assign (v := .bool false) rfl) ?_
  refine wl_nil ?_
  refine qe_seq ?_
  refine wc_seq ?_
  refine wc_seq ?_
  refine wc_region ?_
  refine wl_val wn rfl (rv_assign (v := .int .i64 0) rfl) ?_
  refine wl_nil ?_
  refine qe_seq ?_
  obtain ⟨o2, h3, h4⟩ := Option.bind_eq_some_iff.1 hm
  refine wc_cutg (fun E' w' => ∃ (s5 : Unit) (K6 : KMap), o2 = .inl s5 ∧ E' = [(0, sv p0_s)] ∧ SH w K [] w' K6 [] ∧ KLe K K6) ?_ ?_
  · refine wc_block ?_
    obtain ⟨r11, h12, h13⟩ := Option.bind_eq_some_iff.1 h3
    refine wc_while' (fun (s10 : Int) E' w' => ∃ (K14 : KMap), E' = [(0, sv p0_s), (3, .int .i64 s10)] ∧ SH w K [] w' K14 [] ∧ KLe K K14 ∧ rng64 s10) h12 ⟨K, rfl, hS, (KLe.refl _), (by decide : rng64 0)⟩ ⟨rfl, rfl, trivial⟩ ?_
    rintro s10 _ w16 r19 h20 hx21 ⟨K14, rfl, hS17, hl15, hr18⟩
    refine wc_seq ?_
    refine wc_seq ?_
    refine wc_region ?_
    refine wl_val wn rfl (rv_move rfl) ?_
    refine wl_val wn rfl (rv_move rfl) ?_
    refine wl_val wn rfl (rv_slen Try.underlying9 rfl) ?_
    refine wl_val wn rfl (rv_lss rfl rfl) ?_
    refine wl_nil ?_
    refine qe_seq ?_
    refine wc_cond rfl (fun hb22 => ?_) (fun hb22 => ?_)
    · have h23 := cond_t hb22 h20
      refine wc_skip ?_
      refine qe_seq ?_
      refine wc_seq ?_
      refine wc_block ?_
      refine wc_seq ?_
      obtain ⟨o24, h25, h26⟩ := Option.bind_eq_some_iff.1 h23
      refine wc_cutg (fun E' w' => ∃ (K27 : KMap), E' = [(0, sv p0_s), (3, .int .i64 s10), (19, .bool o24)] ∧ SH w K [] w' K27 [] ∧ KLe K14 K27) ?_ ?_
      · refine wc_region ?_
        refine wl_val wn rfl (rv_move rfl) ?_
        refine wl_val wn rfl (rv_move rfl) ?_
        obtain ⟨x31, hx32, h33⟩ := Option.bind_eq_some_iff.1 h25
        refine wl_val wn rfl (rv_sidx Try.underlying9 rfl rfl hx32) ?_
        refine wl_val wn rfl (rv_bl (b := (32 : UInt8)) rfl rfl) ?_
        refine wl_val wn rfl (rv_move rfl) ?_
        rcases bool_tf (decide (x31 < (32 : UInt8))) with hb34 | hb34
        · have h35 := cond_t hb34 h33
          refine wl_un (ug rfl rfl hb34) rfl ?_
          refine wl_un (ug rfl rfl hb34) rfl ?_
          refine wl_un (ug rfl rfl hb34) rfl ?_
          refine wl_un (ug rfl rfl hb34) rfl ?_
          refine wl_val wn rfl (rv_pick_t (v := .bool true) rfl hb34 rfl) ?_
          refine wl_nil ?_
          obtain rfl := Option.some.inj h35
          exact qe_mid' ⟨K14, rfl, hS17, (KLe.refl _)⟩ ⟨rfl, rfl, rfl, trivial⟩
        · have h35 := cond_f hb34 h33
          refine wl_val (wg rfl rfl hb34) rfl (rv_move rfl) ?_
          refine wl_val (wg rfl rfl hb34) rfl (rv_move rfl) ?_
          obtain ⟨x36, hx37, h38⟩ := Option.bind_eq_some_iff.1 h35
          refine wl_val (wg rfl rfl hb34) rfl (rv_sidx Try.underlying9 rfl rfl hx37) ?_
          refine wl_val (wg rfl rfl hb34) rfl (rv_bg (b := (126 : UInt8)) rfl rfl) ?_
          refine wl_val wn rfl (rv_pick_f rfl hb34 rfl) ?_
          refine wl_nil ?_
          obtain rfl := Option.some.inj h38
          exact qe_mid' ⟨K14, rfl, hS17, (KLe.refl _)⟩ ⟨rfl, rfl, rfl, trivial⟩
      · rintro _ w29 ⟨K27, rfl, hS30, hl28⟩
        refine qe_seq ?_
        refine wc_cond rfl (fun hb39 => ?_) (fun hb39 => ?_)
        · have h40 := cond_t hb39 h26
          refine wc_seq ?_
          refine wc_region ?_
          refine wl_val wn rfl (rv_assign (v := .bool false) rfl) ?_
          refine wl_nil ?_
          refine qe_seq ?_
          refine wc_ret ?_
          refine qe_block_ret ?_
          refine qe_then_ret ?_
          refine qe_then_ret ?_
          obtain rfl := Option.some.inj h40
          have e41 := hx21 _ rfl
          subst e41
          refine qe_block_ret ?_
          refine qe_then_ret ?_
          obtain rfl := Option.some.inj h13
          refine qe_then_ret ?_
          obtain rfl := Option.some.inj h4
          exact qe_ret (vs := [_]) Try.results128 ⟨rfl, trivial⟩ ⟨K27, rfl, hS30⟩
        · have h40 := cond_f hb39 h26
          refine wc_skip ?_
          refine qe_block ?_
          refine qe_seq ?_
          refine wc_region ?_
          refine wl_val wn rfl (rv_move rfl) ?_
          refine wl_val wn rfl (rv_add rfl rfl) ?_
          refine wl_val wn rfl (rv_assign rfl) ?_
          refine wl_nil ?_
          obtain rfl := Option.some.inj h40
          exact qe_mid' ⟨_, rfl, K27, rfl, hS30, (hl15.trans hl28), (w64_rng _)⟩ ⟨rfl, rfl, trivial⟩
    · have h23 := cond_f hb22 h20
      refine wc_exit ?_
      refine qe_then_exit ?_
      refine qe_then_exit ?_
      obtain rfl := Option.some.inj h23
      have e42 := hx21 _ rfl
      subst e42
      refine qe_block_eq ?_
      obtain rfl := Option.some.inj h13
      exact qe_mid' ⟨_, K14, rfl, rfl, hS17, hl15⟩ ⟨rfl, trivial⟩
  · rintro _ w8 ⟨s5, K6, rfl, rfl, hS9, hl7⟩
    refine qe_seq ?_
    refine wc_seq ?_
    refine wc_region ?_
    refine wl_val wn rfl (rv_move rfl) ?_
    refine wl_val wn rfl (rv_slen Try.underlying9 rfl) ?_
    refine wl_val wn rfl (rv_leq rfl rfl) ?_
    refine wl_val wn rfl (rv_assign rfl) ?_
    refine wl_nil ?_
    refine qe_seq ?_
    refine wc_ret ?_
    obtain rfl := Option.some.inj h4
    exact qe_ret (vs := [_]) Try.results128 ⟨rfl, trivial⟩ ⟨K6, rfl, hS9⟩

theorem ok_spec_l6Ok (F : Nat) {w : World} {K : KMap} {a2 : Option Addr} {n3 c4 : Nat} {a6 : Option Addr} {n7 c8 : Nat} {p0_d : GDoc} {r : Bool} (hS : SH w K [] w K []) (hr1 : rng64 p0_d.Id) (hs5 : SliceAt tGField K a2 n3 c4 p0_d.Fields) (hs9 : SliceAt tGAttr K a6 n7 c8 p0_d.Nums) (hm : M.spec_l6Ok F p0_d = some r) :
    Calls Try.prog 102 #[.agg #[.int .i64 p0_d.Id, .slice a2 n3 c4, .slice a6 n7 c8]] w fun e w' => ∃ (K' : KMap), e = .returned (.bool r) ∧ SH w K [] w' K' [] := by
  rw [M.spec_l6Ok] at hm
  refine calls_in Try.func102 rfl Try.ntmps102 rfl ?_
  refine wc_seq ?_
  refine wc_region ?_
  refine wl_box wn rfl rfl hS ?_
  intro g10 w11 hS12
  have hS13 : SH _ _ _ _ _ [obj g10 [.int .i64 p0_d.Id, .slice a2 n3 c4, .slice a6 n7 c8] 43] := hS12
  refine wl_val wn rfl (rv_assign (v := .bool false) rfl) ?_
  refine wl_nil ?_
  refine qe_seq ?_
  refine wc_seq ?_
  refine wc_seq ?_
  refine wc_region ?_
  refine wl_val wn rfl (rv_assign (v := .int .i64 0) rfl) ?_
  refine wl_nil ?_
  refine qe_seq ?_
  obtain ⟨o14, h15, h16⟩ := Option.bind_eq_some_iff.1 hm
  refine wc_cutg (fun E' w' => ∃ (s17 : Unit) (K18 : KMap), o14 = .inl s17 ∧ E' = [(1, .pointer (some ⟨g10, 0, none⟩))] ∧ SH w K [] w' K18 [obj g10 [.int .i64 p0_d.Id, .slice a2 n3 c4, .slice a6 n7 c8] 43] ∧ KLe K K18) ?_ ?_
  · refine wc_block ?_
    obtain ⟨r23, h24, h25⟩ := Option.bind_eq_some_iff.1 h15
    refine wc_while' (fun (s22 : Int) E' w' => ∃ (K26 : KMap), E' = [(1, .pointer (some ⟨g10, 0, none⟩)), (3, .int .i64 s22)] ∧ SH w K [] w' K26 [obj g10 [.int .i64 p0_d.Id, .slice a2 n3 c4, .slice a6 n7 c8] 43] ∧ KLe K K26 ∧ rng64 s22) h24 ⟨K, rfl, hS13, (KLe.refl _), (by decide : rng64 0)⟩ ⟨rfl, rfl, trivial⟩ ?_
    rintro s22 _ w28 r31 h32 hx33 ⟨K26, rfl, hS29, hl27, hr30⟩
    refine wc_seq ?_
    refine wc_seq ?_
    refine wc_region ?_
    refine wl_val wn rfl (rv_move rfl) ?_
    refine wl_val wn rfl (rv_fieldAddr ff43_1 rfl) ?_
    refine wl_val wn rfl (rv_loadm1 tf40 rfl (.head _) hS29 rfl) ?_
    refine wl_val wn rfl (rv_len (t := tGField) Try.underlying40 rfl (SliceAt.mono hl27 hs5)) ?_
    refine wl_val wn rfl (rv_lss rfl rfl) ?_
    refine wl_nil ?_
    refine qe_seq ?_
    refine wc_cond rfl (fun hb34 => ?_) (fun hb34 => ?_)
    · have h35 := cond_t hb34 h32
      refine wc_skip ?_
      refine qe_seq ?_
      refine wc_seq ?_
      refine wc_block ?_
      refine wc_seq ?_
      refine wc_region ?_
      refine wl_val wn rfl (rv_fieldAddr ff43_1 rfl) ?_
      refine wl_val wn rfl (rv_loadm1 tf40 rfl (.head _) hS29 rfl) ?_
      refine wl_val wn rfl (rv_move rfl) ?_
      obtain ⟨x36, hx37, h38⟩ := Option.bind_eq_some_iff.1 h35
      refine wl_indexAddr (t := tGField) wn rfl Try.underlying40 tf96 rfl rfl (SliceAt.mono hl27 hs5) hx37 ?_
      intro b39 o40 u41 hu42 ha43
      obtain ⟨rfl, hl44, hl45⟩ := hu42
      have ha46 : AtK _ b39 o40 [sv x36.Name, sv x36.Text] := ha43
      refine wl_val wn rfl (rv_loadS (cs := [sv x36.Name, sv x36.Text]) tf96 rfl hS29 ha46 rfl) ?_
      refine wl_alloc wn rfl tf96 hS29 ?_
      intro g47 w48 hS49
      have hS50 : SH _ _ _ _ _ [obj g47 [sv [], sv []] 96, _] := hS49
      refine wl_store (cs' := [sv x36.Name, sv x36.Text]) (v := .agg #[sv x36.Name, sv x36.Text]) wn tf96 rfl rfl rfl (by simp [Value.cells, Value.oneCell', sv]) hS50 rfl rfl ?_
      intro w51 hS52
      refine wl_nil ?_
      refine qe_seq ?_
      refine wc_seq ?_
      obtain ⟨o53, h54, h55⟩ := Option.bind_eq_some_iff.1 h38
      refine wc_cutg (fun E' w' => ∃ (K56 : KMap), E' = [(1, .pointer (some ⟨g10, 0, none⟩)), (3, .int .i64 s22), (43, .bool o53)] ∧ SH w K [] w' K56 [obj g10 [.int .i64 p0_d.Id, .slice a2 n3 c4, .slice a6 n7 c8] 43] ∧ KLe K26 K56) ?_ ?_
      · refine wc_quiet mixed (by kernel_rfl) hS52 ?_
        refine wq_val wn rfl (fun _ _ => (rv_fieldAddr ff96_0 rfl)) ?_
        refine wq_val wn rfl (rq_loadm1 tf9 rfl (.head _) rfl) ?_
        obtain ⟨r60, hx61, h62⟩ := Option.bind_eq_some_iff.1 h54
        refine wq_call (v := .bool r60) wn rfl (fun _ => rt_call (vs := [sv x36.Name]) co96 rfl) (fun w65 ⟨K63, hS64, hl66⟩ => ((ok_spec_l1WordOk F) hS64.enter0 hl44 hx61).mono fun e w' ⟨K', he, hS'⟩ => ⟨he, K', hS64.call0 hS', hl66.trans hS'.le⟩) ?_
        refine wq_val wn rfl (fun _ _ => (rv_not rfl)) ?_
        refine wq_val wn rfl (fun _ _ => (rv_move rfl)) ?_
        rcases bool_tf ((!r60)) with hb67 | hb67
        · have h68 := cond_t hb67 h62
          refine wq_un (ug rfl rfl hb67) rfl ?_
          refine wq_un (ug rfl rfl hb67) rfl ?_
          refine wq_un (ug rfl rfl hb67) rfl ?_
          refine wq_un (ug rfl rfl hb67) rfl ?_
          refine wq_val wn rfl (fun _ _ => (rv_pick_t (v := .bool true) rfl hb67 rfl)) ?_
          refine wq_val wn rfl (fun _ _ => (rv_move rfl)) ?_
          refine wq_un (ug rfl rfl rfl) rfl ?_
          refine wq_un (ug rfl rfl rfl) rfl ?_
          refine wq_un (ug rfl rfl rfl) rfl ?_
          refine wq_un (uu rfl rfl) rfl ?_
          refine wq_un (uu rfl rfl) rfl ?_
          refine wq_un (uu rfl rfl) rfl ?_
          refine wq_un (uu rfl rfl) rfl ?_
          refine wq_un (uu rfl rfl) rfl ?_
          refine wq_un (uu rfl rfl) rfl ?_
          refine wq_un (uu rfl rfl) rfl ?_
          refine wq_un (uu rfl rfl) rfl ?_
          refine wq_un (uu rfl rfl) rfl ?_
          refine wq_un (uu rfl rfl) rfl ?_
          refine wq_un (ug rfl rfl rfl) rfl ?_
          refine wq_val wn rfl (fun _ _ => (rv_pick_t (v := .bool true) rfl rfl rfl)) ?_
          refine wq_nil ?_
          rintro w70 ⟨K69, hS71, hl72⟩
          obtain rfl := Option.some.inj h68
          have hS73 : SH _ _ _ _ _ [_] := SH.sublist hS71 (.cons _ (.cons_cons _ .slnil))
          exact qe_mid' ⟨K69, rfl, hS73, hl72⟩ ⟨rfl, rfl, rfl, trivial⟩
        · have h68 := cond_f hb67 h62
          refine wq_val (wg rfl rfl hb67) rfl (fun _ _ => (rv_fieldAddr ff96_1 rfl)) ?_
          refine wq_val (wg rfl rfl hb67) rfl (rq_loadm1 tf9 rfl (.head _) rfl) ?_
          obtain ⟨r74, hx75, h76⟩ := Option.bind_eq_some_iff.1 h68
          refine wq_call (v := .bool r74) (wg rfl rfl hb67) rfl (fun _ => rt_call (vs := [sv x36.Text]) co128 rfl) (fun w79 ⟨K77, hS78, hl80⟩ => ((ok_spec_l1Text F) hS78.enter0 hl45 hx75).mono fun e w' ⟨K', he, hS'⟩ => ⟨he, K', hS78.call0 hS', hl80.trans hS'.le⟩) ?_
          refine wq_val (wg rfl rfl hb67) rfl (fun _ _ => (rv_not rfl)) ?_
          refine wq_val wn rfl (fun _ _ => (rv_pick_f rfl hb67 rfl)) ?_
          refine wq_val wn rfl (fun _ _ => (rv_move rfl)) ?_
          rcases bool_tf ((!r74)) with hb81 | hb81
          · have h82 := cond_t hb81 h76
            refine wq_un (ug rfl rfl hb81) rfl ?_
            refine wq_un (ug rfl rfl hb81) rfl ?_
            refine wq_un (ug rfl rfl hb81) rfl ?_
            refine wq_un (uu rfl rfl) rfl ?_
            refine wq_un (uu rfl rfl) rfl ?_
            refine wq_un (uu rfl rfl) rfl ?_
            refine wq_un (uu rfl rfl) rfl ?_
            refine wq_un (uu rfl rfl) rfl ?_
            refine wq_un (uu rfl rfl) rfl ?_
            refine wq_un (uu rfl rfl) rfl ?_
            refine wq_un (uu rfl rfl) rfl ?_
            refine wq_un (uu rfl rfl) rfl ?_
            refine wq_un (uu rfl rfl) rfl ?_
            refine wq_un (ug rfl rfl hb81) rfl ?_
            refine wq_val wn rfl (fun _ _ => (rv_pick_t (v := .bool true) rfl hb81 rfl)) ?_
            refine wq_nil ?_
            rintro w84 ⟨K83, hS85, hl86⟩
            obtain rfl := Option.some.inj h82
            have hS87 : SH _ _ _ _ _ [_] := SH.sublist hS85 (.cons _ (.cons_cons _ .slnil))
            exact qe_mid' ⟨K83, rfl, hS87, hl86⟩ ⟨rfl, rfl, rfl, trivial⟩
          · have h82 := cond_f hb81 h76
            refine wq_val (wg rfl rfl hb81) rfl (fun _ _ => (rv_move rfl)) ?_
            refine wq_val (wg rfl rfl hb81) rfl (fun _ _ => (rv_gtr rfl rfl)) ?_
            refine wq_val (wg rfl rfl hb81) rfl (fun _ _ => (rv_move rfl)) ?_
            rcases bool_tf (decide ((0 : Int) < s22)) with hb88 | hb88
            · have h89 := cond_t hb88 h82
              refine wq_val (wg rfl rfl hb88) rfl (fun _ _ => (rv_fieldAddr ff96_0 rfl)) ?_
              refine wq_val (wg rfl rfl hb88) rfl (rq_loadm1 tf9 rfl (.head _) rfl) ?_
              refine wq_val (wg rfl rfl hb88) rfl (fun _ _ => (rv_fieldAddr ff43_1 rfl)) ?_
              refine wq_val (wg rfl rfl hb88) rfl (rq_loadm1 tf40 rfl (.tail _ (.head _)) rfl) ?_
              refine wq_val (wg rfl rfl hb88) rfl (fun _ _ => (rv_move rfl)) ?_
              refine wq_val (wg rfl rfl hb88) rfl (fun _ _ => (rv_sub rfl rfl)) ?_
              obtain ⟨x90, hx91, h92⟩ := Option.bind_eq_some_iff.1 h89
              refine wq_indexAddr (t := tGField) (wg rfl rfl hb88) rfl Try.underlying40 tf96 rfl rfl (SliceAt.mono hl27 hs5) hx91 ?_
              intro b93 o94 u95 hu96 ha97
              obtain ⟨rfl, hl98, hl99⟩ := hu96
              have ha100 : AtK _ b93 o94 [sv x90.Name, sv x90.Text] := ha97
              refine wq_val (wg rfl rfl hb88) rfl (fun _ _ => (rv_fieldAddr ff96_0 rfl)) ?_
              refine wq_val (wg rfl rfl hb88) rfl (rq_load1 tf9 rfl (ha100 0 _ rfl)) ?_
              refine wq_val (wg rfl rfl hb88) rfl (fun _ _ => (rv_sleq rfl rfl)) ?_
              refine wq_val (wg rfl rfl hb81) rfl (fun _ _ => (rv_pick_t rfl hb88 rfl)) ?_
              refine wq_val wn rfl (fun _ _ => (rv_pick_f rfl hb81 rfl)) ?_
              refine wq_nil ?_
              rintro w102 ⟨K101, hS103, hl104⟩
              obtain rfl := Option.some.inj h92
              have hS105 : SH _ _ _ _ _ [_] := SH.sublist hS103 (.cons _ (.cons_cons _ .slnil))
              exact qe_mid' ⟨K101, rfl, hS105, hl104⟩ ⟨rfl, rfl, rfl, trivial⟩
            · have h89 := cond_f hb88 h82
              refine wq_un (ug rfl rfl hb88) rfl ?_
              refine wq_un (ug rfl rfl hb88) rfl ?_
              refine wq_un (ug rfl rfl hb88) rfl ?_
              refine wq_un (ug rfl rfl hb88) rfl ?_
              refine wq_un (ug rfl rfl hb88) rfl ?_
              refine wq_un (ug rfl rfl hb88) rfl ?_
              refine wq_un (ug rfl rfl hb88) rfl ?_
              refine wq_un (ug rfl rfl hb88) rfl ?_
              refine wq_un (ug rfl rfl hb88) rfl ?_
              refine wq_un (ug rfl rfl hb88) rfl ?_
              refine wq_val (wg rfl rfl hb81) rfl (fun _ _ => (rv_pick_f (v := .bool false) rfl hb88 rfl)) ?_
              refine wq_val wn rfl (fun _ _ => (rv_pick_f rfl hb81 rfl)) ?_
              refine wq_nil ?_
              rintro w107 ⟨K106, hS108, hl109⟩
              obtain rfl := Option.some.inj h89
              have hS110 : SH _ _ _ _ _ [_] := SH.sublist hS108 (.cons _ (.cons_cons _ .slnil))
              exact qe_mid' ⟨K106, rfl, hS110, hl109⟩ ⟨rfl, rfl, rfl, trivial⟩
      · rintro _ w58 ⟨K56, rfl, hS59, hl57⟩
        refine qe_seq ?_
        refine wc_cond rfl (fun hb111 => ?_) (fun hb111 => ?_)
        · have h112 := cond_t hb111 h55
          refine wc_seq ?_
          refine wc_region ?_
          refine wl_val wn rfl (rv_assign (v := .bool false) rfl) ?_
          refine wl_nil ?_
          refine qe_seq ?_
          refine wc_ret ?_
          refine qe_block_ret ?_
          refine qe_then_ret ?_
          refine qe_then_ret ?_
          obtain rfl := Option.some.inj h112
          have e113 := hx33 _ rfl
          subst e113
          refine qe_block_ret ?_
          refine qe_then_ret ?_
          obtain rfl := Option.some.inj h25
          refine qe_then_ret ?_
          obtain rfl := Option.some.inj h16
          have hS114 : SH _ _ _ _ _ [] := SH.sublist hS59 (.cons _ .slnil)
          exact qe_ret (vs := [_]) Try.results102 ⟨rfl, trivial⟩ ⟨K56, rfl, hS114⟩
        · have h112 := cond_f hb111 h55
          refine wc_skip ?_
          refine qe_block ?_
          refine qe_seq ?_
          refine wc_region ?_
          refine wl_val wn rfl (rv_move rfl) ?_
          refine wl_val wn rfl (rv_add rfl rfl) ?_
          refine wl_val wn rfl (rv_assign rfl) ?_
          refine wl_nil ?_
          obtain rfl := Option.some.inj h112
          exact qe_mid' ⟨_, rfl, K56, rfl, hS59, (hl27.trans hl57), (w64_rng _)⟩ ⟨rfl, rfl, trivial⟩
    · have h35 := cond_f hb34 h32
      refine wc_exit ?_
      refine qe_then_exit ?_
      refine qe_then_exit ?_
      obtain rfl := Option.some.inj h35
      have e115 := hx33 _ rfl
      subst e115
      refine qe_block_eq ?_
      obtain rfl := Option.some.inj h25
      exact qe_mid' ⟨_, K26, rfl, rfl, hS29, hl27⟩ ⟨rfl, trivial⟩
  · rintro _ w20 ⟨s17, K18, rfl, rfl, hS21, hl19⟩
    refine qe_seq ?_
    refine wc_seq ?_
    refine wc_seq ?_
    refine wc_region ?_
    refine wl_val wn rfl (rv_assign (v := .int .i64 0) rfl) ?_
    refine wl_nil ?_
    refine qe_seq ?_
    obtain ⟨o118, h119, h120⟩ := Option.bind_eq_some_iff.1 h16
    refine wc_cutg (fun E' w' => ∃ (s121 : Unit) (K122 : KMap), o118 = .inl s121 ∧ E' = [(1, .pointer (some ⟨g10, 0, none⟩))] ∧ SH w K [] w' K122 [obj g10 [.int .i64 p0_d.Id, .slice a2 n3 c4, .slice a6 n7 c8] 43] ∧ KLe K18 K122) ?_ ?_
    · refine wc_block ?_
      obtain ⟨r127, h128, h129⟩ := Option.bind_eq_some_iff.1 h119
      refine wc_while' (fun (s126 : Int) E' w' => ∃ (K130 : KMap), E' = [(1, .pointer (some ⟨g10, 0, none⟩)), (5, .int .i64 s126)] ∧ SH w K [] w' K130 [obj g10 [.int .i64 p0_d.Id, .slice a2 n3 c4, .slice a6 n7 c8] 43] ∧ KLe K18 K130 ∧ rng64 s126) h128 ⟨K18, rfl, hS21, (KLe.refl _), (by decide : rng64 0)⟩ ⟨rfl, rfl, trivial⟩ ?_
      rintro s126 _ w132 r135 h136 hx137 ⟨K130, rfl, hS133, hl131, hr134⟩
      refine wc_seq ?_
      refine wc_seq ?_
      refine wc_region ?_
      refine wl_val wn rfl (rv_move rfl) ?_
      refine wl_val wn rfl (rv_fieldAddr ff43_2 rfl) ?_
      refine wl_val wn rfl (rv_loadm1 tf41 rfl (.head _) hS133 rfl) ?_
      refine wl_val wn rfl (rv_len (t := tGAttr) Try.underlying41 rfl (SliceAt.mono (hl19.trans hl131) hs9)) ?_
      refine wl_val wn rfl (rv_lss rfl rfl) ?_
      refine wl_nil ?_
      refine qe_seq ?_
      refine wc_cond rfl (fun hb138 => ?_) (fun hb138 => ?_)
      · have h139 := cond_t hb138 h136
        refine wc_skip ?_
        refine qe_seq ?_
        refine wc_seq ?_
        refine wc_block ?_
        refine wc_seq ?_
        obtain ⟨o140, h141, h142⟩ := Option.bind_eq_some_iff.1 h139
        refine wc_cutg (fun E' w' => ∃ (K143 : KMap), E' = [(1, .pointer (some ⟨g10, 0, none⟩)), (5, .int .i64 s126), (88, .bool o140)] ∧ SH w K [] w' K143 [obj g10 [.int .i64 p0_d.Id, .slice a2 n3 c4, .slice a6 n7 c8] 43] ∧ KLe K130 K143) ?_ ?_
        · refine wc_quiet mixed (by kernel_rfl) hS133 ?_
          refine wq_val wn rfl (fun _ _ => (rv_fieldAddr ff43_2 rfl)) ?_
          refine wq_val wn rfl (rq_loadm1 tf41 rfl (.head _) rfl) ?_
          refine wq_val wn rfl (fun _ _ => (rv_move rfl)) ?_
          obtain ⟨x147, hx148, h149⟩ := Option.bind_eq_some_iff.1 h141
          refine wq_indexAddr (t := tGAttr) wn rfl Try.underlying41 tf98 rfl rfl (SliceAt.mono (hl19.trans hl131) hs9) hx148 ?_
          intro b150 o151 u152 hu153 ha154
          obtain ⟨rfl, hl155, hr156⟩ := hu153
          have ha157 : AtK _ b150 o151 [sv x147.Name, .int .i64 x147.Num] := ha154
          refine wq_val wn rfl (fun _ _ => (rv_fieldAddr ff98_0 rfl)) ?_
          refine wq_val wn rfl (rq_load1 tf9 rfl (ha157 0 _ rfl)) ?_
          obtain ⟨r158, hx159, h160⟩ := Option.bind_eq_some_iff.1 h149
          refine wq_call (v := .bool r158) wn rfl (fun _ => rt_call (vs := [sv x147.Name]) co96 rfl) (fun w163 ⟨K161, hS162, hl164⟩ => ((ok_spec_l1WordOk F) hS162.enter0 hl155 hx159).mono fun e w' ⟨K', he, hS'⟩ => ⟨he, K', hS162.call0 hS', hl164.trans hS'.le⟩) ?_
          refine wq_val wn rfl (fun _ _ => (rv_not rfl)) ?_
          refine wq_val wn rfl (fun _ _ => (rv_move rfl)) ?_
          rcases bool_tf ((!r158)) with hb165 | hb165
          · have h166 := cond_t hb165 h160
            refine wq_un (ug rfl rfl hb165) rfl ?_
            refine wq_un (ug rfl rfl hb165) rfl ?_
            refine wq_un (ug rfl rfl hb165) rfl ?_
            refine wq_un (ug rfl rfl hb165) rfl ?_
            refine wq_un (ug rfl rfl hb165) rfl ?_
            refine wq_un (ug rfl rfl hb165) rfl ?_
            refine wq_un (ug rfl rfl hb165) rfl ?_
            refine wq_un (ug rfl rfl hb165) rfl ?_
            refine wq_val wn rfl (fun _ _ => (rv_pick_t (v := .bool true) rfl hb165 rfl)) ?_
            refine wq_val wn rfl (fun _ _ => (rv_move rfl)) ?_
            refine wq_un (ug rfl rfl rfl) rfl ?_
            refine wq_un (ug rfl rfl rfl) rfl ?_
            refine wq_un (ug rfl rfl rfl) rfl ?_
            refine wq_un (uu rfl rfl) rfl ?_
            refine wq_un (uu rfl rfl) rfl ?_
            refine wq_un (uu rfl rfl) rfl ?_
            refine wq_un (uu rfl rfl) rfl ?_
            refine wq_un (uu rfl rfl) rfl ?_
            refine wq_un (uu rfl rfl) rfl ?_
            refine wq_un (uu rfl rfl) rfl ?_
            refine wq_un (uu rfl rfl) rfl ?_
            refine wq_un (uu rfl rfl) rfl ?_
            refine wq_un (uu rfl rfl) rfl ?_
            refine wq_un (uu rfl rfl) rfl ?_
            refine wq_un (uu rfl rfl) rfl ?_
            refine wq_un (uu rfl rfl) rfl ?_
            refine wq_un (uu rfl rfl) rfl ?_
            refine wq_un (ug rfl rfl rfl) rfl ?_
            refine wq_val wn rfl (fun _ _ => (rv_pick_t (v := .bool true) rfl rfl rfl)) ?_
            refine wq_nil ?_
            rintro w168 ⟨K167, hS169, hl170⟩
            obtain rfl := Option.some.inj h166
            exact qe_mid' ⟨K167, rfl, hS169, hl170⟩ ⟨rfl, rfl, rfl, trivial⟩
          · have h166 := cond_f hb165 h160
            refine wq_val (wg rfl rfl hb165) rfl (fun _ _ => (rv_fieldAddr ff43_2 rfl)) ?_
            refine wq_val (wg rfl rfl hb165) rfl (rq_loadm1 tf41 rfl (.head _) rfl) ?_
            refine wq_val (wg rfl rfl hb165) rfl (fun _ _ => (rv_move rfl)) ?_
            obtain ⟨x171, hx172, h173⟩ := Option.bind_eq_some_iff.1 h166
            refine wq_indexAddr (t := tGAttr) (wg rfl rfl hb165) rfl Try.underlying41 tf98 rfl rfl (SliceAt.mono (hl19.trans hl131) hs9) hx172 ?_
            intro b174 o175 u176 hu177 ha178
            obtain ⟨rfl, hl179, hr180⟩ := hu177
            have ha181 : AtK _ b174 o175 [sv x171.Name, .int .i64 x171.Num] := ha178
            refine wq_val (wg rfl rfl hb165) rfl (fun _ _ => (rv_fieldAddr ff98_1 rfl)) ?_
            refine wq_val (wg rfl rfl hb165) rfl (rq_load1 tf3 rfl (ha181 1 _ rfl)) ?_
            obtain ⟨r182, hx183, h184⟩ := Option.bind_eq_some_iff.1 h173
            refine wq_call (v := .bool r182) (wg rfl rfl hb165) rfl (fun _ => rt_call (vs := [.int .i64 x171.Num, .int .i64 0, .int .i64 999999999]) co60 rfl) (fun w187 ⟨K185, hS186, hl188⟩ => ((ok_spec_l1In F) hS186.enter0 hr180 (by decide : rng64 0) (by decide : rng64 999999999) hx183).mono fun e w' ⟨K', he, hS'⟩ => ⟨he, K', hS186.call0 hS', hl188.trans hS'.le⟩) ?_
            refine wq_val (wg rfl rfl hb165) rfl (fun _ _ => (rv_not rfl)) ?_
            refine wq_val wn rfl (fun _ _ => (rv_pick_f rfl hb165 rfl)) ?_
            refine wq_val wn rfl (fun _ _ => (rv_move rfl)) ?_
            rcases bool_tf ((!r182)) with hb189 | hb189
            · have h190 := cond_t hb189 h184
              refine wq_un (ug rfl rfl hb189) rfl ?_
              refine wq_un (ug rfl rfl hb189) rfl ?_
              refine wq_un (ug rfl rfl hb189) rfl ?_
              refine wq_un (uu rfl rfl) rfl ?_
              refine wq_un (uu rfl rfl) rfl ?_
              refine wq_un (uu rfl rfl) rfl ?_
              refine wq_un (uu rfl rfl) rfl ?_
              refine wq_un (uu rfl rfl) rfl ?_
              refine wq_un (uu rfl rfl) rfl ?_
              refine wq_un (uu rfl rfl) rfl ?_
              refine wq_un (uu rfl rfl) rfl ?_
              refine wq_un (uu rfl rfl) rfl ?_
              refine wq_un (uu rfl rfl) rfl ?_
              refine wq_un (uu rfl rfl) rfl ?_
              refine wq_un (uu rfl rfl) rfl ?_
              refine wq_un (uu rfl rfl) rfl ?_
              refine wq_un (uu rfl rfl) rfl ?_
              refine wq_un (ug rfl rfl hb189) rfl ?_
              refine wq_val wn rfl (fun _ _ => (rv_pick_t (v := .bool true) rfl hb189 rfl)) ?_
              refine wq_nil ?_
              rintro w192 ⟨K191, hS193, hl194⟩
              obtain rfl := Option.some.inj h190
              exact qe_mid' ⟨K191, rfl, hS193, hl194⟩ ⟨rfl, rfl, rfl, trivial⟩
            · have h190 := cond_f hb189 h184
              refine wq_val (wg rfl rfl hb189) rfl (fun _ _ => (rv_move rfl)) ?_
              refine wq_val (wg rfl rfl hb189) rfl (fun _ _ => (rv_gtr rfl rfl)) ?_
              refine wq_val (wg rfl rfl hb189) rfl (fun _ _ => (rv_move rfl)) ?_
              rcases bool_tf (decide ((0 : Int) < s126)) with hb195 | hb195
              · have h196 := cond_t hb195 h190
                refine wq_val (wg rfl rfl hb195) rfl (fun _ _ => (rv_fieldAddr ff43_2 rfl)) ?_
                refine wq_val (wg rfl rfl hb195) rfl (rq_loadm1 tf41 rfl (.head _) rfl) ?_
                refine wq_val (wg rfl rfl hb195) rfl (fun _ _ => (rv_move rfl)) ?_
                obtain ⟨x197, hx198, h199⟩ := Option.bind_eq_some_iff.1 h196
                refine wq_indexAddr (t := tGAttr) (wg rfl rfl hb195) rfl Try.underlying41 tf98 rfl rfl (SliceAt.mono (hl19.trans hl131) hs9) hx198 ?_
                intro b200 o201 u202 hu203 ha204
                obtain ⟨rfl, hl205, hr206⟩ := hu203
                have ha207 : AtK _ b200 o201 [sv x197.Name, .int .i64 x197.Num] := ha204
                refine wq_val (wg rfl rfl hb195) rfl (fun _ _ => (rv_fieldAddr ff98_0 rfl)) ?_
                refine wq_val (wg rfl rfl hb195) rfl (rq_load1 tf9 rfl (ha207 0 _ rfl)) ?_
                refine wq_val (wg rfl rfl hb195) rfl (fun _ _ => (rv_fieldAddr ff43_2 rfl)) ?_
                refine wq_val (wg rfl rfl hb195) rfl (rq_loadm1 tf41 rfl (.head _) rfl) ?_
                refine wq_val (wg rfl rfl hb195) rfl (fun _ _ => (rv_move rfl)) ?_
                refine wq_val (wg rfl rfl hb195) rfl (fun _ _ => (rv_sub rfl rfl)) ?_
                obtain ⟨x208, hx209, h210⟩ := Option.bind_eq_some_iff.1 h199
                refine wq_indexAddr (t := tGAttr) (wg rfl rfl hb195) rfl Try.underlying41 tf98 rfl rfl (SliceAt.mono (hl19.trans hl131) hs9) hx209 ?_
                intro b211 o212 u213 hu214 ha215
                obtain ⟨rfl, hl216, hr217⟩ := hu214
                have ha218 : AtK _ b211 o212 [sv x208.Name, .int .i64 x208.Num] := ha215
                refine wq_val (wg rfl rfl hb195) rfl (fun _ _ => (rv_fieldAddr ff98_0 rfl)) ?_
                refine wq_val (wg rfl rfl hb195) rfl (rq_load1 tf9 rfl (ha218 0 _ rfl)) ?_
                refine wq_val (wg rfl rfl hb195) rfl (fun _ _ => (rv_sleq rfl rfl)) ?_
                refine wq_val (wg rfl rfl hb189) rfl (fun _ _ => (rv_pick_t rfl hb195 rfl)) ?_
                refine wq_val wn rfl (fun _ _ => (rv_pick_f rfl hb189 rfl)) ?_
                refine wq_nil ?_
                rintro w220 ⟨K219, hS221, hl222⟩
                obtain rfl := Option.some.inj h210
                exact qe_mid' ⟨K219, rfl, hS221, hl222⟩ ⟨rfl, rfl, rfl, trivial⟩
              · have h196 := cond_f hb195 h190
                refine wq_un (ug rfl rfl hb195) rfl ?_
                refine wq_un (ug rfl rfl hb195) rfl ?_
                refine wq_un (ug rfl rfl hb195) rfl ?_
                refine wq_un (ug rfl rfl hb195) rfl ?_
                refine wq_un (ug rfl rfl hb195) rfl ?_
                refine wq_un (ug rfl rfl hb195) rfl ?_
                refine wq_un (ug rfl rfl hb195) rfl ?_
                refine wq_un (ug rfl rfl hb195) rfl ?_
                refine wq_un (ug rfl rfl hb195) rfl ?_
                refine wq_un (ug rfl rfl hb195) rfl ?_
                refine wq_un (ug rfl rfl hb195) rfl ?_
                refine wq_un (ug rfl rfl hb195) rfl ?_
                refine wq_un (ug rfl rfl hb195) rfl ?_
                refine wq_un (ug rfl rfl hb195) rfl ?_
                refine wq_val (wg rfl rfl hb189) rfl (fun _ _ => (rv_pick_f (v := .bool false) rfl hb195 rfl)) ?_
                refine wq_val wn rfl (fun _ _ => (rv_pick_f rfl hb189 rfl)) ?_
                refine wq_nil ?_
                rintro w224 ⟨K223, hS225, hl226⟩
                obtain rfl := Option.some.inj h196
                exact qe_mid' ⟨K223, rfl, hS225, hl226⟩ ⟨rfl, rfl, rfl, trivial⟩
        · rintro _ w145 ⟨K143, rfl, hS146, hl144⟩
          refine qe_seq ?_
          refine wc_cond rfl (fun hb227 => ?_) (fun hb227 => ?_)
          · have h228 := cond_t hb227 h142
            refine wc_seq ?_
            refine wc_region ?_
            refine wl_val wn rfl (rv_assign (v := .bool false) rfl) ?_
            refine wl_nil ?_
            refine qe_seq ?_
            refine wc_ret ?_
            refine qe_block_ret ?_
            refine qe_then_ret ?_
            refine qe_then_ret ?_
            obtain rfl := Option.some.inj h228
            have e229 := hx137 _ rfl
            subst e229
            refine qe_block_ret ?_
            refine qe_then_ret ?_
            obtain rfl := Option.some.inj h129
            refine qe_then_ret ?_
            obtain rfl := Option.some.inj h120
            have hS230 : SH _ _ _ _ _ [] := SH.sublist hS146 (.cons _ .slnil)
            exact qe_ret (vs := [_]) Try.results102 ⟨rfl, trivial⟩ ⟨K143, rfl, hS230⟩
          · have h228 := cond_f hb227 h142
            refine wc_skip ?_
            refine qe_block ?_
            refine qe_seq ?_
            refine wc_region ?_
            refine wl_val wn rfl (rv_move rfl) ?_
            refine wl_val wn rfl (rv_add rfl rfl) ?_
            refine wl_val wn rfl (rv_assign rfl) ?_
            refine wl_nil ?_
            obtain rfl := Option.some.inj h228
            exact qe_mid' ⟨_, rfl, K143, rfl, hS146, (hl131.trans hl144), (w64_rng _)⟩ ⟨rfl, rfl, trivial⟩
      · have h139 := cond_f hb138 h136
        refine wc_exit ?_
        refine qe_then_exit ?_
        refine qe_then_exit ?_
        obtain rfl := Option.some.inj h139
        have e231 := hx137 _ rfl
        subst e231
        refine qe_block_eq ?_
        obtain rfl := Option.some.inj h129
        exact qe_mid' ⟨_, K130, rfl, rfl, hS133, hl131⟩ ⟨rfl, trivial⟩
    · rintro _ w124 ⟨s121, K122, rfl, rfl, hS125, hl123⟩
      refine qe_seq ?_
      refine wc_seq ?_
      refine wc_region ?_
      refine wl_val wn rfl (rv_fieldAddr ff43_0 rfl) ?_
      refine wl_val wn rfl (rv_loadm1 tf3 rfl (.head _) hS125 rfl) ?_
      obtain ⟨r234, hx235, h236⟩ := Option.bind_eq_some_iff.1 h120
      refine wl_call wn rfl (rt_call (vs := [.int .i64 p0_d.Id, .int .i64 1, .int .i64 9999]) co60 rfl) ((ok_spec_l1In F) hS125.enter0 hr1 (by decide : rng64 1) (by decide : rng64 9999) hx235) ?_
      rintro e240 w238 ⟨K237, rfl, hS239⟩
      refine ⟨_, rfl, ?_⟩
      have hS241 : SH _ _ _ _ _ [_] := SH.call0 hS125 hS239
      refine wl_val wn rfl (rv_move rfl) ?_
      rcases bool_tf (r234) with hb242 | hb242
      · have h243 := cond_t hb242 h236
        refine wl_val (wg rfl rfl hb242) rfl (rv_fieldAddr ff43_1 rfl) ?_
        refine wl_val (wg rfl rfl hb242) rfl (rv_loadm1 tf40 rfl (.head _) hS241 rfl) ?_
        refine wl_val (wg rfl rfl hb242) rfl (rv_len (t := tGField) Try.underlying40 rfl (SliceAt.mono ((hl19.trans hl123).trans hS239.le) hs5)) ?_
        obtain ⟨r244, hx245, h246⟩ := Option.bind_eq_some_iff.1 h243
        refine wl_call (wg rfl rfl hb242) rfl (rt_call (vs := [.int .i64 (p0_d.Fields.length : Int), .int .i64 0, .int .i64 3]) co60 rfl) ((ok_spec_l1In F) hS241.enter0 (rng_nat (SliceAt.max (SliceAt.mono ((hl19.trans hl123).trans hS239.le) hs5))) (by decide : rng64 0) (by decide : rng64 3) hx245) ?_
        rintro e250 w248 ⟨K247, rfl, hS249⟩
        refine ⟨_, rfl, ?_⟩
        have hS251 : SH _ _ _ _ _ [_] := SH.call0 hS241 hS249
        refine wl_val wn rfl (rv_pick_t rfl hb242 rfl) ?_
        refine wl_val wn rfl (rv_move rfl) ?_
        rcases bool_tf (r244) with hb252 | hb252
        · have h253 := cond_t hb252 h246
          refine wl_val (wg rfl rfl hb252) rfl (rv_fieldAddr ff43_2 rfl) ?_
          refine wl_val (wg rfl rfl hb252) rfl (rv_loadm1 tf41 rfl (.head _) hS251 rfl) ?_
          refine wl_val (wg rfl rfl hb252) rfl (rv_len (t := tGAttr) Try.underlying41 rfl (SliceAt.mono (((hl19.trans hl123).trans hS239.le).trans hS249.le) hs9)) ?_
          refine wl_val (wg rfl rfl hb252) rfl (rv_leq rfl rfl) ?_
          refine wl_val wn rfl (rv_pick_t rfl hb252 rfl) ?_
          refine wl_val wn rfl (rv_assign rfl) ?_
          refine wl_nil ?_
          refine qe_seq ?_
          refine wc_ret ?_
          obtain rfl := Option.some.inj h253
          have hS254 : SH _ _ _ _ _ [] := SH.sublist hS251 (.cons _ .slnil)
          exact qe_ret (vs := [_]) Try.results102 ⟨rfl, trivial⟩ ⟨K247, rfl, hS254⟩
        · have h253 := cond_f hb252 h246
          refine wl_un (ug rfl rfl hb252) rfl ?_
          refine wl_un (ug rfl rfl hb252) rfl ?_
          refine wl_un (ug rfl rfl hb252) rfl ?_
          refine wl_un (ug rfl rfl hb252) rfl ?_
          refine wl_val wn rfl (rv_pick_f (v := .bool false) rfl hb252 rfl) ?_
          refine wl_val wn rfl (rv_assign rfl) ?_
          refine wl_nil ?_
          refine qe_seq ?_
          refine wc_ret ?_
          obtain rfl := Option.some.inj h253
          have hS255 : SH _ _ _ _ _ [] := SH.sublist hS251 (.cons _ .slnil)
          exact qe_ret (vs := [_]) Try.results102 ⟨rfl, trivial⟩ ⟨K247, rfl, hS255⟩
      · have h243 := cond_f hb242 h236
        refine wl_un (ug rfl rfl hb242) rfl ?_
        refine wl_un (ug rfl rfl hb242) rfl ?_
        refine wl_un (ug rfl rfl hb242) rfl ?_
        refine wl_un (ug rfl rfl hb242) rfl ?_
        refine wl_val wn rfl (rv_pick_f (v := .bool false) rfl hb242 rfl) ?_
        refine wl_val wn rfl (rv_move rfl) ?_
        refine wl_un (ug rfl rfl rfl) rfl ?_
        refine wl_un (ug rfl rfl rfl) rfl ?_
        refine wl_un (ug rfl rfl rfl) rfl ?_
        refine wl_un (ug rfl rfl rfl) rfl ?_
        refine wl_val wn rfl (rv_pick_f (v := .bool false) rfl rfl rfl) ?_
        refine wl_val wn rfl (rv_assign rfl) ?_
        refine wl_nil ?_
        refine qe_seq ?_
        refine wc_ret ?_
        obtain rfl := Option.some.inj h243
        have hS256 : SH _ _ _ _ _ [] := SH.sublist hS241 (.cons _ .slnil)
        exact qe_ret (vs := [_]) Try.results102 ⟨rfl, trivial⟩ ⟨K237, rfl, hS256⟩

theorem ok_spec_l6Docs (F : Nat) {w : World} {K : KMap} {a1 : Option Addr} {n2 c3 : Nat} {p0_list : List GDoc} {r : Bool} (hS : SH w K [] w K []) (hs4 : SliceAt tGDoc K a1 n2 c3 p0_list) (hm : M.spec_l6Docs F p0_list = some r) :
    Calls Try.prog 59 #[.slice a1 n2 c3] w fun e w' => ∃ (K' : KMap), e = .returned (.bool r) ∧ SH w K [] w' K' [] := by
  rw [M.spec_l6Docs] at hm
  refine calls_in Try.func59 rfl Try.ntmps59 rfl ?_
  refine wc_seq ?_
  refine wc_region ?_
  refine wl_val wn rfl (rv_assign (v := .bool false) rfl) ?_
  refine wl_nil ?_
  refine qe_seq ?_
  refine wc_seq ?_
  refine wc_seq ?_
  refine wc_region ?_
  refine wl_val wn rfl (rv_assign (v := .int .i64 0) rfl) ?_
  refine wl_nil ?_
  refine qe_seq ?_
  obtain ⟨o5, h6, h7⟩ := Option.bind_eq_some_iff.1 hm
  refine wc_cutg (fun E' w' => ∃ (s8 : Unit) (K9 : KMap), o5 = .inl s8 ∧ E' = [(0, .slice a1 n2 c3)] ∧ SH w K [] w' K9 [] ∧ KLe K K9) ?_ ?_
  · refine wc_block ?_
    obtain ⟨r14, h15, h16⟩ := Option.bind_eq_some_iff.1 h6
    refine wc_while' (fun (s13 : Int) E' w' => ∃ (K17 : KMap), E' = [(0, .slice a1 n2 c3), (3, .int .i64 s13)] ∧ SH w K [] w' K17 [] ∧ KLe K K17 ∧ rng64 s13) h15 ⟨K, rfl, hS, (KLe.refl _), (by decide : rng64 0)⟩ ⟨rfl, rfl, trivial⟩ ?_
    rintro s13 _ w19 r22 h23 hx24 ⟨K17, rfl, hS20, hl18, hr21⟩
    refine wc_seq ?_
    refine wc_seq ?_
    refine wc_region ?_
    refine wl_val wn rfl (rv_move rfl) ?_
    refine wl_val wn rfl (rv_move rfl) ?_
    refine wl_val wn rfl (rv_len (t := tGDoc) Try.underlying34 rfl (SliceAt.mono hl18 hs4)) ?_
    refine wl_val wn rfl (rv_lss rfl rfl) ?_
    refine wl_nil ?_
    refine qe_seq ?_
    refine wc_cond rfl (fun hb25 => ?_) (fun hb25 => ?_)
    · have h26 := cond_t hb25 h23
      refine wc_skip ?_
      refine qe_seq ?_
      refine wc_seq ?_
      refine wc_block ?_
      refine wc_seq ?_
      obtain ⟨o27, h28, h29⟩ := Option.bind_eq_some_iff.1 h26
      refine wc_cutg (fun E' w' => ∃ (K30 : KMap), E' = [(0, .slice a1 n2 c3), (3, .int .i64 s13), (33, .bool o27)] ∧ SH w K [] w' K30 [] ∧ KLe K17 K30) ?_ ?_
      · refine wc_quiet mixed (by kernel_rfl) hS20 ?_
        refine wq_val wn rfl (fun _ _ => (rv_move rfl)) ?_
        refine wq_val wn rfl (fun _ _ => (rv_move rfl)) ?_
        obtain ⟨x34, hx35, h36⟩ := Option.bind_eq_some_iff.1 h28
        refine wq_indexAddr (t := tGDoc) wn rfl Try.underlying34 tf43 rfl rfl (SliceAt.mono hl18 hs4) hx35 ?_
        intro b37 o38 u39 hu40 ha41
        obtain ⟨a43, n44, c45, a47, n48, c49, rfl, hr42, hs46, hs50⟩ := hu40
        have ha51 : AtK _ b37 o38 [.int .i64 x34.Id, .slice a43 n44 c45, .slice a47 n48 c49] := ha41
        refine wq_val wn rfl (rq_loadS (cs := [.int .i64 x34.Id, .slice a43 n44 c45, .slice a47 n48 c49]) tf43 rfl ha51 rfl) ?_
        obtain ⟨r52, hx53, h54⟩ := Option.bind_eq_some_iff.1 h36
        refine wq_call (v := .bool r52) wn rfl (fun _ => rt_call (vs := [.agg #[.int .i64 x34.Id, .slice a43 n44 c45, .slice a47 n48 c49]]) co102 rfl) (fun w57 ⟨K55, hS56, hl58⟩ => ((ok_spec_l6Ok F) hS56.enter0 hr42 (SliceAt.mono hl58 hs46) (SliceAt.mono hl58 hs50) hx53).mono fun e w' ⟨K', he, hS'⟩ => ⟨he, K', hS56.call0 hS', hl58.trans hS'.le⟩) ?_
        refine wq_val wn rfl (fun _ _ => (rv_not rfl)) ?_
        refine wq_val wn rfl (fun _ _ => (rv_move rfl)) ?_
        rcases bool_tf ((!r52)) with hb59 | hb59
        · have h60 := cond_t hb59 h54
          refine wq_un (ug rfl rfl hb59) rfl ?_
          refine wq_un (ug rfl rfl hb59) rfl ?_
          refine wq_un (ug rfl rfl hb59) rfl ?_
          refine wq_un (uu rfl rfl) rfl ?_
          refine wq_un (uu rfl rfl) rfl ?_
          refine wq_un (uu rfl rfl) rfl ?_
          refine wq_un (uu rfl rfl) rfl ?_
          refine wq_un (uu rfl rfl) rfl ?_
          refine wq_un (uu rfl rfl) rfl ?_
          refine wq_un (uu rfl rfl) rfl ?_
          refine wq_un (uu rfl rfl) rfl ?_
          refine wq_un (uu rfl rfl) rfl ?_
          refine wq_un (uu rfl rfl) rfl ?_
          refine wq_un (uu rfl rfl) rfl ?_
          refine wq_un (uu rfl rfl) rfl ?_
          refine wq_un (ug rfl rfl hb59) rfl ?_
          refine wq_val wn rfl (fun _ _ => (rv_pick_t (v := .bool true) rfl hb59 rfl)) ?_
          refine wq_nil ?_
          rintro w62 ⟨K61, hS63, hl64⟩
          obtain rfl := Option.some.inj h60
          exact qe_mid' ⟨K61, rfl, hS63, hl64⟩ ⟨rfl, rfl, rfl, trivial⟩
        · have h60 := cond_f hb59 h54
          refine wq_val (wg rfl rfl hb59) rfl (fun _ _ => (rv_move rfl)) ?_
          refine wq_val (wg rfl rfl hb59) rfl (fun _ _ => (rv_gtr rfl rfl)) ?_
          refine wq_val (wg rfl rfl hb59) rfl (fun _ _ => (rv_move rfl)) ?_
          rcases bool_tf (decide ((0 : Int) < s13)) with hb65 | hb65
          · have h66 := cond_t hb65 h60
            refine wq_val (wg rfl rfl hb65) rfl (fun _ _ => (rv_move rfl)) ?_
            refine wq_val (wg rfl rfl hb65) rfl (fun _ _ => (rv_move rfl)) ?_
            obtain ⟨x67, hx68, h69⟩ := Option.bind_eq_some_iff.1 h66
            refine wq_indexAddr (t := tGDoc) (wg rfl rfl hb65) rfl Try.underlying34 tf43 rfl rfl (SliceAt.mono hl18 hs4) hx68 ?_
            intro b70 o71 u72 hu73 ha74
            obtain ⟨a76, n77, c78, a80, n81, c82, rfl, hr75, hs79, hs83⟩ := hu73
            have ha84 : AtK _ b70 o71 [.int .i64 x67.Id, .slice a76 n77 c78, .slice a80 n81 c82] := ha74
            refine wq_val (wg rfl rfl hb65) rfl (fun _ _ => (rv_fieldAddr ff43_0 rfl)) ?_
            refine wq_val (wg rfl rfl hb65) rfl (rq_load1 tf3 rfl (ha84 0 _ rfl)) ?_
            refine wq_val (wg rfl rfl hb65) rfl (fun _ _ => (rv_move rfl)) ?_
            refine wq_val (wg rfl rfl hb65) rfl (fun _ _ => (rv_move rfl)) ?_
            refine wq_val (wg rfl rfl hb65) rfl (fun _ _ => (rv_sub rfl rfl)) ?_
            obtain ⟨x85, hx86, h87⟩ := Option.bind_eq_some_iff.1 h69
            refine wq_indexAddr (t := tGDoc) (wg rfl rfl hb65) rfl Try.underlying34 tf43 rfl rfl (SliceAt.mono hl18 hs4) hx86 ?_
            intro b88 o89 u90 hu91 ha92
            obtain ⟨a94, n95, c96, a98, n99, c100, rfl, hr93, hs97, hs101⟩ := hu91
            have ha102 : AtK _ b88 o89 [.int .i64 x85.Id, .slice a94 n95 c96, .slice a98 n99 c100] := ha92
            refine wq_val (wg rfl rfl hb65) rfl (fun _ _ => (rv_fieldAddr ff43_0 rfl)) ?_
            refine wq_val (wg rfl rfl hb65) rfl (rq_load1 tf3 rfl (ha102 0 _ rfl)) ?_
            refine wq_val (wg rfl rfl hb65) rfl (fun _ _ => (rv_leq rfl rfl)) ?_
            refine wq_val (wg rfl rfl hb59) rfl (fun _ _ => (rv_pick_t rfl hb65 rfl)) ?_
            refine wq_val wn rfl (fun _ _ => (rv_pick_f rfl hb59 rfl)) ?_
            refine wq_nil ?_
            rintro w104 ⟨K103, hS105, hl106⟩
            obtain rfl := Option.some.inj h87
            exact qe_mid' ⟨K103, rfl, hS105, hl106⟩ ⟨rfl, rfl, rfl, trivial⟩
          · have h66 := cond_f hb65 h60
            refine wq_un (ug rfl rfl hb65) rfl ?_
            refine wq_un (ug rfl rfl hb65) rfl ?_
            refine wq_un (ug rfl rfl hb65) rfl ?_
            refine wq_un (ug rfl rfl hb65) rfl ?_
            refine wq_un (ug rfl rfl hb65) rfl ?_
            refine wq_un (ug rfl rfl hb65) rfl ?_
            refine wq_un (ug rfl rfl hb65) rfl ?_
            refine wq_un (ug rfl rfl hb65) rfl ?_
            refine wq_un (ug rfl rfl hb65) rfl ?_
            refine wq_un (ug rfl rfl hb65) rfl ?_
            refine wq_un (ug rfl rfl hb65) rfl ?_
            refine wq_un (ug rfl rfl hb65) rfl ?_
            refine wq_val (wg rfl rfl hb59) rfl (fun _ _ => (rv_pick_f (v := .bool false) rfl hb65 rfl)) ?_
            refine wq_val wn rfl (fun _ _ => (rv_pick_f rfl hb59 rfl)) ?_
            refine wq_nil ?_
            rintro w108 ⟨K107, hS109, hl110⟩
            obtain rfl := Option.some.inj h66
            exact qe_mid' ⟨K107, rfl, hS109, hl110⟩ ⟨rfl, rfl, rfl, trivial⟩
      · rintro _ w32 ⟨K30, rfl, hS33, hl31⟩
        refine qe_seq ?_
        refine wc_cond rfl (fun hb111 => ?_) (fun hb111 => ?_)
        · have h112 := cond_t hb111 h29
          refine wc_seq ?_
          refine wc_region ?_
          refine wl_val wn rfl (rv_assign (v := .bool false) rfl) ?_
          refine wl_nil ?_
          refine qe_seq ?_
          refine wc_ret ?_
          refine qe_block_ret ?_
          refine qe_then_ret ?_
          refine qe_then_ret ?_
          obtain rfl := Option.some.inj h112
          have e113 := hx24 _ rfl
          subst e113
          refine qe_block_ret ?_
          refine qe_then_ret ?_
          obtain rfl := Option.some.inj h16
          refine qe_then_ret ?_
          obtain rfl := Option.some.inj h7
          exact qe_ret (vs := [_]) Try.results59 ⟨rfl, trivial⟩ ⟨K30, rfl, hS33⟩
        · have h112 := cond_f hb111 h29
          refine wc_skip ?_
          refine qe_block ?_
          refine qe_seq ?_
          refine wc_region ?_
          refine wl_val wn rfl (rv_move rfl) ?_
          refine wl_val wn rfl (rv_add rfl rfl) ?_
          refine wl_val wn rfl (rv_assign rfl) ?_
          refine wl_nil ?_
          obtain rfl := Option.some.inj h112
          exact qe_mid' ⟨_, rfl, K30, rfl, hS33, (hl18.trans hl31), (w64_rng _)⟩ ⟨rfl, rfl, trivial⟩
    · have h26 := cond_f hb25 h23
      refine wc_exit ?_
      refine qe_then_exit ?_
      refine qe_then_exit ?_
      obtain rfl := Option.some.inj h26
      have e114 := hx24 _ rfl
      subst e114
      refine qe_block_eq ?_
      obtain rfl := Option.some.inj h16
      exact qe_mid' ⟨_, K17, rfl, rfl, hS20, hl18⟩ ⟨rfl, trivial⟩
  · rintro _ w11 ⟨s8, K9, rfl, rfl, hS12, hl10⟩
    refine qe_seq ?_
    refine wc_seq ?_
    refine wc_region ?_
    refine wl_val wn rfl (rv_move rfl) ?_
    refine wl_val wn rfl (rv_len (t := tGDoc) Try.underlying34 rfl (SliceAt.mono hl10 hs4)) ?_
    refine wl_val wn rfl (rv_leq rfl rfl) ?_
    refine wl_val wn rfl (rv_assign rfl) ?_
    refine wl_nil ?_
    refine qe_seq ?_
    refine wc_ret ?_
    obtain rfl := Option.some.inj h7
    exact qe_ret (vs := [_]) Try.results59 ⟨rfl, trivial⟩ ⟨K9, rfl, hS12⟩

theorem ok_spec_l7CopyDoc (F : Nat) {w : World} {K : KMap} {a2 : Option Addr} {n3 c4 : Nat} {a6 : Option Addr} {n7 c8 : Nat} {p0_d : GDoc} {r : GDoc} (hS : SH w K [] w K []) (hr1 : rng64 p0_d.Id) (hs5 : SliceAt tGField K a2 n3 c4 p0_d.Fields) (hs9 : SliceAt tGAttr K a6 n7 c8 p0_d.Nums) (hm : M.spec_l7CopyDoc F p0_d = some r) :
    Calls Try.prog 61 #[.agg #[.int .i64 p0_d.Id, .slice a2 n3 c4, .slice a6 n7 c8]] w fun e w' => ∃ (a_2 : Option Addr) (n_3 c_4 : Nat) (a_6 : Option Addr) (n_7 c_8 : Nat) (K' : KMap), e = .returned (.agg #[.int .i64 r.Id, .slice a_2 n_3 c_4, .slice a_6 n_7 c_8]) ∧ SH w K [] w' K' [tail (.slice a_2 n_3 c_4) 96 2, tail (.slice a_6 n_7 c_8) 98 2] ∧ rng64 r.Id ∧ SliceAt tGField K' a_2 n_3 c_4 r.Fields ∧ SliceAt tGAttr K' a_6 n_7 c_8 r.Nums := by
  rw [M.spec_l7CopyDoc] at hm
  refine calls_in Try.func61 rfl Try.ntmps61 rfl ?_
  refine wc_seq ?_
  refine wc_region ?_
  refine wl_box wn rfl rfl hS ?_
  intro g10 w11 hS12
  have hS13 : SH _ _ _ _ _ [obj g10 [.int .i64 p0_d.Id, .slice a2 n3 c4, .slice a6 n7 c8] 43] := hS12
  refine wl_alloc wn rfl tf43 hS13 ?_
  intro g14 w15 hS16
  have hS17 : SH _ _ _ _ _ [obj g14 [.int .i64 0, .slice none 0 0, .slice none 0 0] 43, _] := hS16
  refine wl_nil ?_
  refine qe_seq ?_
  refine wc_seq ?_
  obtain ⟨x26, hx27, h28⟩ := Option.bind_eq_some_iff.1 hm
  obtain ⟨x43, hx44, h45⟩ := Option.bind_eq_some_iff.1 h28
  refine wc_held (fun w' => Holds K w' ∧ HasObj g10 [.int .i64 p0_d.Id, .slice a2 n3 c4, .slice a6 n7 c8] w') (fun w' => True) 11 [] mixed ?_
  have hS19 := SH.drew hS17
  refine wg_val (i := 0) (listed' := #[true, false, false, false, false, false, false, false, false, false, false, false]) (fun _ => True) rfl (by kernel_rfl) (pk_then pk_body) (by kernel_rfl) rfl (by kernel_rfl) (by kernel_rfl) rfl (.inl fun _ _ => trivial) ⟨⟨hS19.hasK (KLe.refl _), hS19.hasObj (.tail _ (.head _))⟩, (fun _ => trivial), by decide⟩ wn rfl (fun _ _ => (rv_fieldAddr ff43_0 rfl)) ?_
  refine wg_val (i := 1) (listed' := #[true, true, false, false, false, false, false, false, false, false, false, false]) (HasObj g10 [.int .i64 p0_d.Id, .slice a2 n3 c4, .slice a6 n7 c8]) rfl (by kernel_rfl) (pk_then pk_body) (by kernel_rfl) rfl (by kernel_rfl) (by kernel_rfl) rfl (.inl fun _ h => h.2) ⟨⟨hS19.hasK (KLe.refl _), hS19.hasObj (.tail _ (.head _))⟩, (fun _ => trivial), by decide⟩ wn rfl (fun _ h => rh_loadm1 tf3 rfl rfl h) ?_
  refine wg_val (i := 3) (listed' := #[true, true, false, true, false, false, false, false, false, false, false, false]) (fun _ => True) rfl (by kernel_rfl) (pk_then pk_body) (by kernel_rfl) rfl (by kernel_rfl) (by kernel_rfl) rfl (.inl fun _ _ => trivial) ⟨⟨hS19.hasK (KLe.refl _), hS19.hasObj (.tail _ (.head _))⟩, (fun _ => trivial), by decide⟩ wn rfl (fun _ _ => (rv_fieldAddr ff43_1 rfl)) ?_
  refine wg_val (i := 4) (listed' := #[true, true, false, true, true, false, false, false, false, false, false, false]) (HasObj g10 [.int .i64 p0_d.Id, .slice a2 n3 c4, .slice a6 n7 c8]) rfl (by kernel_rfl) (pk_then pk_body) (by kernel_rfl) rfl (by kernel_rfl) (by kernel_rfl) rfl (.inl fun _ h => h.2) ⟨⟨hS19.hasK (KLe.refl _), hS19.hasObj (.tail _ (.head _))⟩, (fun _ => trivial), by decide⟩ wn rfl (fun _ h => rh_loadm1 tf40 rfl rfl h) ?_
  refine wg_val (i := 7) (listed' := #[true, true, false, true, true, false, false, true, false, false, false, false]) (fun _ => True) rfl (by kernel_rfl) (pk_then pk_body) (by kernel_rfl) rfl (by kernel_rfl) (by kernel_rfl) rfl (.inl fun _ _ => trivial) ⟨⟨hS19.hasK (KLe.refl _), hS19.hasObj (.tail _ (.head _))⟩, (fun _ => trivial), by decide⟩ wn rfl (fun _ _ => (rv_fieldAddr ff43_2 rfl)) ?_
  refine wg_val (i := 8) (listed' := #[true, true, false, true, true, false, false, true, true, false, false, false]) (HasObj g10 [.int .i64 p0_d.Id, .slice a2 n3 c4, .slice a6 n7 c8]) rfl (by kernel_rfl) (pk_then pk_body) (by kernel_rfl) rfl (by kernel_rfl) (by kernel_rfl) rfl (.inl fun _ h => h.2) ⟨⟨hS19.hasK (KLe.refl _), hS19.hasObj (.tail _ (.head _))⟩, (fun _ => trivial), by decide⟩ wn rfl (fun _ h => rh_loadm1 tf41 rfl rfl h) ?_
  refine wg_many (l := [2, 6]) (by kernel_rfl) rfl ⟨⟨_, rfl, ?_⟩, ⟨_, rfl, ?_⟩, trivial⟩
  · refine wl_buildSlice0 tGField wn rfl Try.underlying40 tf96 hS19 ?_
    intro a57 w58 K59 hl60 hs61 hS62
    refine wl_nil (qe_held (listed' := #[true, true, true, true, true, false, false, true, true, false, false, false]) rfl ⟨⟨hS62.hasK hl60, hS62.hasObj (.tail _ (.tail _ (.head _)))⟩, (fun _ => trivial), by decide⟩ ?_)
    refine wg_many (l := [5, 6]) (by kernel_rfl) rfl ⟨⟨_, rfl, ?_⟩, ⟨_, rfl, ?_⟩, trivial⟩
    · refine wl_append (t := tGField) wn rfl Try.underlying40 tf96 rfl rfl rfl rfl rfl hs61 (SliceAt.mono hl60 hs5) hx27 hS62 ?_
      intro a63 n64 c65 w66 K67 hl68 hs69 hS70
      refine wl_nil (qe_held (listed' := #[true, true, true, true, true, true, false, true, true, false, false, false]) rfl ⟨⟨hS70.hasK (hl60.trans hl68), hS70.hasObj (.tail _ (.tail _ (.head _)))⟩, (fun _ => trivial), by decide⟩ ?_)
      refine wg_one (i := 6) (by kernel_rfl) rfl ?_
      refine wl_buildSlice0 tGAttr wn rfl Try.underlying41 tf98 hS70 ?_
      intro a71 w72 K73 hl74 hs75 hS76
      refine wl_nil (qe_held (listed' := #[true, true, true, true, true, true, true, true, true, false, false, false]) rfl ⟨⟨hS76.hasK ((hl60.trans hl68).trans hl74), hS76.hasObj (.tail _ (.tail _ (.tail _ (.head _))))⟩, (fun _ => trivial), by decide⟩ ?_)
      refine wg_one (i := 9) (by kernel_rfl) rfl ?_
      refine wl_append (t := tGAttr) wn rfl Try.underlying41 tf98 rfl rfl rfl rfl rfl hs75 (SliceAt.mono ((hl60.trans hl68).trans hl74) hs9) hx44 hS76 ?_
      intro a77 n78 c79 w80 K81 hl82 hs83 hS84
      refine wl_nil (qe_held (listed' := #[true, true, true, true, true, true, true, true, true, true, false, false]) rfl ⟨⟨hS84.hasK (((hl60.trans hl68).trans hl74).trans hl82), hS84.hasObj (.tail _ (.tail _ (.tail _ (.head _))))⟩, (fun _ => trivial), by decide⟩ ?_)
      refine wg_val (i := 10) (listed' := #[true, true, true, true, true, true, true, true, true, true, true, false]) (fun _ => True) rfl (by kernel_rfl) (pk_then pk_body) (by kernel_rfl) rfl (by kernel_rfl) (by kernel_rfl) rfl (.inl fun _ _ => trivial) ⟨⟨hS84.hasK (((hl60.trans hl68).trans hl74).trans hl82), hS84.hasObj (.tail _ (.tail _ (.tail _ (.head _))))⟩, (fun _ => trivial), by decide⟩ wn rfl (fun _ _ => (rv_build (cs := #[.int .i64 p0_d.Id, .slice a63 n64 c65, .slice a77 n78 c79]) sp43 tf43 rfl (by kernel_rfl))) ?_
      refine wg_one (i := 11) (by kernel_rfl) rfl ?_
      have hS85 : SH _ _ _ _ _ [_, _, _, _] := SH.front (p := [_, _]) hS84
      refine wl_store (cs' := [.int .i64 p0_d.Id, .slice a63 n64 c65, .slice a77 n78 c79]) (v := .agg #[.int .i64 p0_d.Id, .slice a63 n64 c65, .slice a77 n78 c79]) wn tf43 rfl rfl rfl (by simp [Value.cells, Value.oneCell']) hS85 rfl rfl ?_
      intro w86 hS87
      refine wl_nil (qe_held (listed' := #[true, true, true, true, true, true, true, true, true, true, true, true]) rfl ⟨⟨hS87.hasK (((hl60.trans hl68).trans hl74).trans hl82), hS87.hasObj (.tail _ (.tail _ (.tail _ (.head _))))⟩, (fun _ => trivial), by decide⟩ ?_)
      refine wg_done (by kernel_rfl) ?_
      refine qe_seq ?_
      refine wc_ret ?_
      obtain rfl := Option.some.inj h45
      have hS88 : SH _ _ _ _ _ [_, _, _, _] := SH.front (p := [_]) hS87
      have hS89 : SH _ _ _ _ _ [_, _, _, _] := SH.front (p := [_, _]) hS88
      have hS90 : SH _ _ _ _ _ [_, _] := SH.sublist hS89 (.cons_cons _ (.cons_cons _ (.cons _ (.cons _ .slnil))))
      exact qe_ret (vs := [_]) Try.results61 ⟨⟨_, _, rfl, run_loadVar_at tf43 (cs := [.int .i64 p0_d.Id, .slice a63 n64 c65, .slice a77 n78 c79]) (fun j c e => by rw [Nat.zero_add, hS87.mem_obj (.head _)]; exact e) (.inl ⟨rfl, rfl, rfl⟩)⟩, trivial⟩ ⟨a63, n64, c65, a77, n78, c79, K81, rfl, hS90, hr1, (SliceAt.mono (hl74.trans hl82) hs69), hs83⟩
    · refine wl_buildSlice0 tGAttr wn rfl Try.underlying41 tf98 hS62 ?_
      intro a91 w92 K93 hl94 hs95 hS96
      refine wl_nil (qe_held (listed' := #[true, true, true, true, true, false, true, true, true, false, false, false]) rfl ⟨⟨hS96.hasK (hl60.trans hl94), hS96.hasObj (.tail _ (.tail _ (.tail _ (.head _))))⟩, (fun _ => trivial), by decide⟩ ?_)
      refine wg_one (i := 5) (by kernel_rfl) rfl ?_
      have hS97 : SH _ _ _ _ _ [_, _, _, _] := SH.front (p := [_]) hS96
      refine wl_append (t := tGField) wn rfl Try.underlying40 tf96 rfl rfl rfl rfl rfl (SliceAt.mono hl94 hs61) (SliceAt.mono (hl60.trans hl94) hs5) hx27 hS97 ?_
      intro a98 n99 c100 w101 K102 hl103 hs104 hS105
      refine wl_nil (qe_held (listed' := #[true, true, true, true, true, true, true, true, true, false, false, false]) rfl ⟨⟨hS105.hasK ((hl60.trans hl94).trans hl103), hS105.hasObj (.tail _ (.tail _ (.tail _ (.head _))))⟩, (fun _ => trivial), by decide⟩ ?_)
      refine wg_one (i := 9) (by kernel_rfl) rfl ?_
      have hS106 : SH _ _ _ _ _ [_, _, _, _] := SH.front (p := [_]) hS105
      refine wl_append (t := tGAttr) wn rfl Try.underlying41 tf98 rfl rfl rfl rfl rfl (SliceAt.mono hl103 hs95) (SliceAt.mono ((hl60.trans hl94).trans hl103) hs9) hx44 hS106 ?_
      intro a107 n108 c109 w110 K111 hl112 hs113 hS114
      refine wl_nil (qe_held (listed' := #[true, true, true, true, true, true, true, true, true, true, false, false]) rfl ⟨⟨hS114.hasK (((hl60.trans hl94).trans hl103).trans hl112), hS114.hasObj (.tail _ (.tail _ (.tail _ (.head _))))⟩, (fun _ => trivial), by decide⟩ ?_)
      refine wg_val (i := 10) (listed' := #[true, true, true, true, true, true, true, true, true, true, true, false]) (fun _ => True) rfl (by kernel_rfl) (pk_then pk_body) (by kernel_rfl) rfl (by kernel_rfl) (by kernel_rfl) rfl (.inl fun _ _ => trivial) ⟨⟨hS114.hasK (((hl60.trans hl94).trans hl103).trans hl112), hS114.hasObj (.tail _ (.tail _ (.tail _ (.head _))))⟩, (fun _ => trivial), by decide⟩ wn rfl (fun _ _ => (rv_build (cs := #[.int .i64 p0_d.Id, .slice a98 n99 c100, .slice a107 n108 c109]) sp43 tf43 rfl (by kernel_rfl))) ?_
      refine wg_one (i := 11) (by kernel_rfl) rfl ?_
      have hS115 : SH _ _ _ _ _ [_, _, _, _] := SH.front (p := [_, _]) hS114
      refine wl_store (cs' := [.int .i64 p0_d.Id, .slice a98 n99 c100, .slice a107 n108 c109]) (v := .agg #[.int .i64 p0_d.Id, .slice a98 n99 c100, .slice a107 n108 c109]) wn tf43 rfl rfl rfl (by simp [Value.cells, Value.oneCell']) hS115 rfl rfl ?_
      intro w116 hS117
      refine wl_nil (qe_held (listed' := #[true, true, true, true, true, true, true, true, true, true, true, true]) rfl ⟨⟨hS117.hasK (((hl60.trans hl94).trans hl103).trans hl112), hS117.hasObj (.tail _ (.tail _ (.tail _ (.head _))))⟩, (fun _ => trivial), by decide⟩ ?_)
      refine wg_done (by kernel_rfl) ?_
      refine qe_seq ?_
      refine wc_ret ?_
      obtain rfl := Option.some.inj h45
      have hS118 : SH _ _ _ _ _ [_, _, _, _] := SH.front (p := [_]) hS117
      have hS119 : SH _ _ _ _ _ [_, _, _, _] := SH.front (p := [_, _]) hS118
      have hS120 : SH _ _ _ _ _ [_, _] := SH.sublist hS119 (.cons_cons _ (.cons_cons _ (.cons _ (.cons _ .slnil))))
      exact qe_ret (vs := [_]) Try.results61 ⟨⟨_, _, rfl, run_loadVar_at tf43 (cs := [.int .i64 p0_d.Id, .slice a98 n99 c100, .slice a107 n108 c109]) (fun j c e => by rw [Nat.zero_add, hS117.mem_obj (.head _)]; exact e) (.inl ⟨rfl, rfl, rfl⟩)⟩, trivial⟩ ⟨a98, n99, c100, a107, n108, c109, K111, rfl, hS120, hr1, (SliceAt.mono hl112 hs104), hs113⟩
  · refine wl_buildSlice0 tGAttr wn rfl Try.underlying41 tf98 hS19 ?_
    intro a121 w122 K123 hl124 hs125 hS126
    refine wl_nil (qe_held (listed' := #[true, true, false, true, true, false, true, true, true, false, false, false]) rfl ⟨⟨hS126.hasK hl124, hS126.hasObj (.tail _ (.tail _ (.head _)))⟩, (fun _ => trivial), by decide⟩ ?_)
    refine wg_one (i := 2) (by kernel_rfl) rfl ?_
    refine wl_buildSlice0 tGField wn rfl Try.underlying40 tf96 hS126 ?_
    intro a127 w128 K129 hl130 hs131 hS132
    refine wl_nil (qe_held (listed' := #[true, true, true, true, true, false, true, true, true, false, false, false]) rfl ⟨⟨hS132.hasK (hl124.trans hl130), hS132.hasObj (.tail _ (.tail _ (.tail _ (.head _))))⟩, (fun _ => trivial), by decide⟩ ?_)
    refine wg_one (i := 5) (by kernel_rfl) rfl ?_
    refine wl_append (t := tGField) wn rfl Try.underlying40 tf96 rfl rfl rfl rfl rfl hs131 (SliceAt.mono (hl124.trans hl130) hs5) hx27 hS132 ?_
    intro a133 n134 c135 w136 K137 hl138 hs139 hS140
    refine wl_nil (qe_held (listed' := #[true, true, true, true, true, true, true, true, true, false, false, false]) rfl ⟨⟨hS140.hasK ((hl124.trans hl130).trans hl138), hS140.hasObj (.tail _ (.tail _ (.tail _ (.head _))))⟩, (fun _ => trivial), by decide⟩ ?_)
    refine wg_one (i := 9) (by kernel_rfl) rfl ?_
    have hS141 : SH _ _ _ _ _ [_, _, _, _] := SH.front (p := [_]) hS140
    refine wl_append (t := tGAttr) wn rfl Try.underlying41 tf98 rfl rfl rfl rfl rfl (SliceAt.mono (hl130.trans hl138) hs125) (SliceAt.mono ((hl124.trans hl130).trans hl138) hs9) hx44 hS141 ?_
    intro a142 n143 c144 w145 K146 hl147 hs148 hS149
    refine wl_nil (qe_held (listed' := #[true, true, true, true, true, true, true, true, true, true, false, false]) rfl ⟨⟨hS149.hasK (((hl124.trans hl130).trans hl138).trans hl147), hS149.hasObj (.tail _ (.tail _ (.tail _ (.head _))))⟩, (fun _ => trivial), by decide⟩ ?_)
    refine wg_val (i := 10) (listed' := #[true, true, true, true, true, true, true, true, true, true, true, false]) (fun _ => True) rfl (by kernel_rfl) (pk_then pk_body) (by kernel_rfl) rfl (by kernel_rfl) (by kernel_rfl) rfl (.inl fun _ _ => trivial) ⟨⟨hS149.hasK (((hl124.trans hl130).trans hl138).trans hl147), hS149.hasObj (.tail _ (.tail _ (.tail _ (.head _))))⟩, (fun _ => trivial), by decide⟩ wn rfl (fun _ _ => (rv_build (cs := #[.int .i64 p0_d.Id, .slice a133 n134 c135, .slice a142 n143 c144]) sp43 tf43 rfl (by kernel_rfl))) ?_
    refine wg_one (i := 11) (by kernel_rfl) rfl ?_
    have hS150 : SH _ _ _ _ _ [_, _, _, _] := SH.front (p := [_, _]) hS149
    refine wl_store (cs' := [.int .i64 p0_d.Id, .slice a133 n134 c135, .slice a142 n143 c144]) (v := .agg #[.int .i64 p0_d.Id, .slice a133 n134 c135, .slice a142 n143 c144]) wn tf43 rfl rfl rfl (by simp [Value.cells, Value.oneCell']) hS150 rfl rfl ?_
    intro w151 hS152
    refine wl_nil (qe_held (listed' := #[true, true, true, true, true, true, true, true, true, true, true, true]) rfl ⟨⟨hS152.hasK (((hl124.trans hl130).trans hl138).trans hl147), hS152.hasObj (.tail _ (.tail _ (.tail _ (.head _))))⟩, (fun _ => trivial), by decide⟩ ?_)
    refine wg_done (by kernel_rfl) ?_
    refine qe_seq ?_
    refine wc_ret ?_
    obtain rfl := Option.some.inj h45
    have hS153 : SH _ _ _ _ _ [_, _, _, _] := SH.front (p := [_]) hS152
    have hS154 : SH _ _ _ _ _ [_, _, _, _] := SH.front (p := [_, _]) hS153
    have hS155 : SH _ _ _ _ _ [_, _] := SH.sublist hS154 (.cons_cons _ (.cons_cons _ (.cons _ (.cons _ .slnil))))
    exact qe_ret (vs := [_]) Try.results61 ⟨⟨_, _, rfl, run_loadVar_at tf43 (cs := [.int .i64 p0_d.Id, .slice a133 n134 c135, .slice a142 n143 c144]) (fun j c e => by rw [Nat.zero_add, hS152.mem_obj (.head _)]; exact e) (.inl ⟨rfl, rfl, rfl⟩)⟩, trivial⟩ ⟨a133, n134, c135, a142, n143, c144, K146, rfl, hS155, hr1, (SliceAt.mono hl147 hs139), hs148⟩

theorem ok_spec_ShardOf (F : Nat) {w : World} {K : KMap} {a1 : Option Addr} {n2 c3 : Nat} {p0_docs : List GDoc} {p1_many : Int} {p2_which : Int} {r : (List GDoc)} (hS : SH w K [] w K []) (hs4 : SliceAt tGDoc K a1 n2 c3 p0_docs) (hr5 : rng64 p1_many) (hr6 : rng64 p2_which) (hm : M.spec_ShardOf F p0_docs p1_many p2_which = some r) :
    Calls Try.prog 17 #[.slice a1 n2 c3, .int .i64 p1_many, .int .i64 p2_which] w fun e w' => ∃ (a_1 : Option Addr) (n_2 c_3 : Nat) (K' : KMap), e = .returned (.slice a_1 n_2 c_3) ∧ SH w K [] w' K' [tail (.slice a_1 n_2 c_3) 43 3] ∧ SliceAt tGDoc K' a_1 n_2 c_3 r := by
  rw [M.spec_ShardOf] at hm
  refine calls_in Try.func17 rfl Try.ntmps17 rfl ?_
  refine wc_seq ?_
  refine wc_region ?_
  refine wl_val wn rfl (rv_assign (v := .slice none 0 0) rfl) ?_
  refine wl_nil ?_
  refine qe_seq ?_
  refine wc_seq ?_
  refine wc_region ?_
  refine wl_buildSlice0 tGDoc wn rfl Try.underlying34 tf43 hS ?_
  intro a7 w8 K9 hl10 hs11 hS12
  refine wl_val wn rfl (rv_assign rfl) ?_
  refine wl_nil ?_
  refine qe_seq ?_
  refine wc_seq ?_
  refine wc_seq ?_
  obtain ⟨o13, h14, h15⟩ := Option.bind_eq_some_iff.1 hm
  refine wc_cutg (fun E' w' => ∃ (K16 : KMap), E' = [(0, .slice a1 n2 c3), (1, .int .i64 p1_many), (2, .int .i64 p2_which), (7, .slice a7 0 0), (24, .bool o13)] ∧ SH w K [] w' K16 [tail (.slice a7 0 0) 43 3] ∧ KLe K9 K16) ?_ ?_
  · refine wc_region ?_
    refine wl_val wn rfl (rv_move rfl) ?_
    obtain ⟨r20, hx21, h22⟩ := Option.bind_eq_some_iff.1 h14
    refine wl_call wn rfl (rt_call (vs := [.slice a1 n2 c3]) co59 rfl) ((ok_spec_l6Docs F) hS12.enter0 (SliceAt.mono hl10 hs4) hx21) ?_
    rintro e26 w24 ⟨K23, rfl, hS25⟩
    refine ⟨_, rfl, ?_⟩
    have hS27 : SH _ _ _ _ _ [_] := SH.call0 hS12 hS25
    refine wl_val wn rfl (rv_not rfl) ?_
    refine wl_val wn rfl (rv_move rfl) ?_
    rcases bool_tf ((!r20)) with hb28 | hb28
    · have h29 := cond_t hb28 h22
      refine wl_un (ug rfl rfl hb28) rfl ?_
      refine wl_un (ug rfl rfl hb28) rfl ?_
      refine wl_un (ug rfl rfl hb28) rfl ?_
      refine wl_val wn rfl (rv_pick_t (v := .bool true) rfl hb28 rfl) ?_
      refine wl_val wn rfl (rv_move rfl) ?_
      refine wl_un (ug rfl rfl rfl) rfl ?_
      refine wl_un (ug rfl rfl rfl) rfl ?_
      refine wl_un (ug rfl rfl rfl) rfl ?_
      refine wl_un (ug rfl rfl rfl) rfl ?_
      refine wl_un (ug rfl rfl rfl) rfl ?_
      refine wl_val wn rfl (rv_pick_t (v := .bool true) rfl rfl rfl) ?_
      refine wl_nil ?_
      obtain rfl := Option.some.inj h29
      exact qe_mid' ⟨K23, rfl, hS27, hS25.le⟩ ⟨rfl, rfl, rfl, rfl, rfl, trivial⟩
    · have h29 := cond_f hb28 h22
      refine wl_val (wg rfl rfl hb28) rfl (rv_move rfl) ?_
      obtain ⟨r30, hx31, h32⟩ := Option.bind_eq_some_iff.1 h29
      refine wl_call (wg rfl rfl hb28) rfl (rt_call (vs := [.int .i64 p1_many, .int .i64 1, .int .i64 4]) co60 rfl) ((ok_spec_l1In F) hS27.enter0 hr5 (by decide : rng64 1) (by decide : rng64 4) hx31) ?_
      rintro e36 w34 ⟨K33, rfl, hS35⟩
      refine ⟨_, rfl, ?_⟩
      have hS37 : SH _ _ _ _ _ [_] := SH.call0 hS27 hS35
      refine wl_val (wg rfl rfl hb28) rfl (rv_not rfl) ?_
      refine wl_val wn rfl (rv_pick_f rfl hb28 rfl) ?_
      refine wl_val wn rfl (rv_move rfl) ?_
      rcases bool_tf ((!r30)) with hb38 | hb38
      · have h39 := cond_t hb38 h32
        refine wl_un (ug rfl rfl hb38) rfl ?_
        refine wl_un (ug rfl rfl hb38) rfl ?_
        refine wl_un (ug rfl rfl hb38) rfl ?_
        refine wl_un (ug rfl rfl hb38) rfl ?_
        refine wl_un (ug rfl rfl hb38) rfl ?_
        refine wl_val wn rfl (rv_pick_t (v := .bool true) rfl hb38 rfl) ?_
        refine wl_nil ?_
        obtain rfl := Option.some.inj h39
        exact qe_mid' ⟨K33, rfl, hS37, (hS25.le.trans hS35.le)⟩ ⟨rfl, rfl, rfl, rfl, rfl, trivial⟩
      · have h39 := cond_f hb38 h32
        refine wl_val (wg rfl rfl hb38) rfl (rv_move rfl) ?_
        refine wl_val (wg rfl rfl hb38) rfl (rv_move rfl) ?_
        refine wl_val (wg rfl rfl hb38) rfl (rv_sub rfl rfl) ?_
        obtain ⟨r40, hx41, h42⟩ := Option.bind_eq_some_iff.1 h39
        refine wl_call (wg rfl rfl hb38) rfl (rt_call (vs := [.int .i64 p2_which, .int .i64 0, .int .i64 (w64 (p1_many - (1 : Int)))]) co60 rfl) ((ok_spec_l1In F) hS37.enter0 hr6 (by decide : rng64 0) (w64_rng _) hx41) ?_
        rintro e46 w44 ⟨K43, rfl, hS45⟩
        refine ⟨_, rfl, ?_⟩
        have hS47 : SH _ _ _ _ _ [_] := SH.call0 hS37 hS45
        refine wl_val (wg rfl rfl hb38) rfl (rv_not rfl) ?_
        refine wl_val wn rfl (rv_pick_f rfl hb38 rfl) ?_
        refine wl_nil ?_
        obtain rfl := Option.some.inj h42
        exact qe_mid' ⟨K43, rfl, hS47, ((hS25.le.trans hS35.le).trans hS45.le)⟩ ⟨rfl, rfl, rfl, rfl, rfl, trivial⟩
  · rintro _ w18 ⟨K16, rfl, hS19, hl17⟩
    refine qe_seq ?_
    refine wc_cond rfl (fun hb48 => ?_) (fun hb48 => ?_)
    · have h49 := cond_t hb48 h15
      refine wc_seq ?_
      refine wc_region ?_
      refine wl_val wn rfl (rv_assign (v := .slice none 0 0) rfl) ?_
      refine wl_nil ?_
      refine qe_seq ?_
      refine wc_ret ?_
      refine qe_then_ret ?_
      obtain rfl := Option.some.inj h49
      have hS50 := SH.nil hS19 43 3
      have hS51 : SH _ _ _ _ _ [_] := SH.sublist hS50 (.cons_cons _ (.cons _ .slnil))
      exact qe_ret (vs := [_]) Try.results17 ⟨rfl, trivial⟩ ⟨none, 0, 0, K16, rfl, hS51, (SliceAt.nil _ _)⟩
    · have h49 := cond_f hb48 h15
      refine wc_skip ?_
      refine qe_seq ?_
      refine wc_seq ?_
      refine wc_seq ?_
      refine wc_region ?_
      refine wl_val wn rfl (rv_assign (v := .int .i64 0) rfl) ?_
      refine wl_nil ?_
      refine qe_seq ?_
      obtain ⟨o52, h53, h54⟩ := Option.bind_eq_some_iff.1 h49
      refine wc_cutg (fun E' w' => ∃ (a59 : Option Addr) (n60 c61 : Nat) (K55 : KMap), E' = [(7, .slice a59 n60 c61)] ∧ SH w K [] w' K55 [tail (.slice a59 n60 c61) 43 3] ∧ KLe K16 K55 ∧ SliceAt tGDoc K55 a59 n60 c61 o52) ?_ ?_
      · refine wc_block ?_
        obtain ⟨r64, h65, h66⟩ := Option.bind_eq_some_iff.1 h53
        refine wc_while' (fun (s63 : (List GDoc) × Int) E' w' => ∃ (a71 : Option Addr) (n72 c73 : Nat) (K67 : KMap), E' = [(0, .slice a1 n2 c3), (1, .int .i64 p1_many), (2, .int .i64 p2_which), (7, .slice a71 n72 c73), (8, .int .i64 s63.2)] ∧ SH w K [] w' K67 [tail (.slice a71 n72 c73) 43 3] ∧ KLe K16 K67 ∧ SliceAt tGDoc K67 a71 n72 c73 s63.1 ∧ rng64 s63.2) h65 ⟨a7, 0, 0, K16, rfl, hS19, (KLe.refl _), (SliceAt.mono hl17 hs11), (by decide : rng64 0)⟩ ⟨rfl, rfl, rfl, rfl, rfl, trivial⟩ ?_
        rintro s63 _ w69 r76 h77 hx78 ⟨a71, n72, c73, K67, rfl, hS70, hl68, hs74, hr75⟩
        refine wc_seq ?_
        refine wc_seq ?_
        refine wc_region ?_
        refine wl_val wn rfl (rv_move rfl) ?_
        refine wl_val wn rfl (rv_move rfl) ?_
        refine wl_val wn rfl (rv_len (t := tGDoc) Try.underlying34 rfl (SliceAt.mono ((hl10.trans hl17).trans hl68) hs4)) ?_
        refine wl_val wn rfl (rv_lss rfl rfl) ?_
        refine wl_nil ?_
        refine qe_seq ?_
        refine wc_cond rfl (fun hb79 => ?_) (fun hb79 => ?_)
        · have h80 := cond_t hb79 h77
          refine wc_skip ?_
          refine qe_seq ?_
          refine wc_seq ?_
          refine wc_block ?_
          refine wc_seq ?_
          refine wc_region ?_
          refine wl_val wn rfl (rv_move rfl) ?_
          refine wl_val wn rfl (rv_move rfl) ?_
          obtain ⟨x81, hx82, h83⟩ := Option.bind_eq_some_iff.1 h80
          refine wl_indexAddr (t := tGDoc) wn rfl Try.underlying34 tf43 rfl rfl (SliceAt.mono ((hl10.trans hl17).trans hl68) hs4) hx82 ?_
          intro b84 o85 u86 hu87 ha88
          obtain ⟨a90, n91, c92, a94, n95, c96, rfl, hr89, hs93, hs97⟩ := hu87
          have ha98 : AtK _ b84 o85 [.int .i64 x81.Id, .slice a90 n91 c92, .slice a94 n95 c96] := ha88
          refine wl_val wn rfl (rv_fieldAddr ff43_0 rfl) ?_
          refine wl_val wn rfl (rv_load1 tf3 rfl hS70 (ha98 0 _ rfl)) ?_
          refine wl_val wn rfl (rv_move rfl) ?_
          obtain ⟨x99, hx100, h101⟩ := Option.bind_eq_some_iff.1 h83
          refine wl_val wn rfl (rv_rem rfl rfl hx100) ?_
          refine wl_val wn rfl (rv_move rfl) ?_
          refine wl_val wn rfl (rv_eql rfl rfl) ?_
          refine wl_nil ?_
          refine qe_seq ?_
          refine wc_cond rfl (fun hb102 => ?_) (fun hb102 => ?_)
          · have h103 := cond_t hb102 h101
            refine wc_region ?_
            refine wl_val wn rfl (rv_move rfl) ?_
            refine wl_val wn rfl (rv_move rfl) ?_
            refine wl_val wn rfl (rv_move rfl) ?_
            obtain ⟨x104, hx105, h106⟩ := Option.bind_eq_some_iff.1 h103
            refine wl_indexAddr (t := tGDoc) wn rfl Try.underlying34 tf43 rfl rfl (SliceAt.mono ((hl10.trans hl17).trans hl68) hs4) hx105 ?_
            intro b107 o108 u109 hu110 ha111
            obtain ⟨a113, n114, c115, a117, n118, c119, rfl, hr112, hs116, hs120⟩ := hu110
            have ha121 : AtK _ b107 o108 [.int .i64 x104.Id, .slice a113 n114 c115, .slice a117 n118 c119] := ha111
            refine wl_val wn rfl (rv_loadS (cs := [.int .i64 x104.Id, .slice a113 n114 c115, .slice a117 n118 c119]) tf43 rfl hS70 ha121 rfl) ?_
            obtain ⟨r122, hx123, h124⟩ := Option.bind_eq_some_iff.1 h106
            refine wl_call wn rfl (rt_call (vs := [.agg #[.int .i64 x104.Id, .slice a113 n114 c115, .slice a117 n118 c119]]) co61 rfl) ((ok_spec_l7CopyDoc F) hS70.enter0 hr112 hs116 hs120 hx123) ?_
            rintro e137 w126 ⟨a129, n130, c131, a133, n134, c135, K125, rfl, hS127, hr128, hs132, hs136⟩
            refine ⟨_, rfl, ?_⟩
            have hS138 : SH _ _ _ _ _ [_, _, _] := SH.call0 hS70 hS127
            refine wl_buildSlice (t := tGDoc) (n := 1) (pv := [(0, .agg #[.int .i64 r122.Id, .slice a129 n130 c131, .slice a133 n134 c135])]) (cs := [.int .i64 r122.Id, .slice a129 n130 c131, .slice a133 n134 c135]) (xs := [r122]) wn rfl Try.underlying34 tf43 rfl rfl rfl (by kernel_rfl) rfl rfl (lit_cons (u := .agg #[.int .i64 r122.Id, .slice a129 n130 c131, .slice a133 n134 c135]) (z := r122) ⟨a129, n130, c131, a133, n134, c135, rfl, hr128, hs132, hs136⟩ lit_nil) hS138 ?_
            intro a139 w140 K141 hl142 hs143 hS144
            have hS145 : SH _ _ _ _ _ [_, _, _, _] := SH.front (p := [_, _, _]) hS144
            obtain ⟨x146, hx147, h148⟩ := Option.bind_eq_some_iff.1 h124
            refine wl_append (t := tGDoc) wn rfl Try.underlying34 tf43 rfl rfl rfl rfl rfl (SliceAt.mono (hS127.le.trans hl142) hs74) hs143 hx147 hS145 ?_
            intro a149 n150 c151 w152 K153 hl154 hs155 hS156
            refine wl_val wn rfl (rv_assign rfl) ?_
            refine wl_nil ?_
            refine qe_block ?_
            refine qe_seq ?_
            refine wc_region ?_
            refine wl_val wn rfl (rv_move rfl) ?_
            refine wl_val wn rfl (rv_add rfl rfl) ?_
            refine wl_val wn rfl (rv_assign rfl) ?_
            refine wl_nil ?_
            obtain rfl := Option.some.inj h148
            have hS157 : SH _ _ _ _ _ [_] := SH.sublist hS156 (.cons_cons _ (.cons _ (.cons _ (.cons _ .slnil))))
            exact qe_mid' ⟨_, rfl, a149, n150, c151, K153, rfl, hS157, (((hl68.trans hS127.le).trans hl142).trans hl154), hs155, (w64_rng _)⟩ ⟨rfl, rfl, rfl, rfl, rfl, trivial⟩
          · have h103 := cond_f hb102 h101
            refine wc_skip ?_
            refine qe_block ?_
            refine qe_seq ?_
            refine wc_region ?_
            refine wl_val wn rfl (rv_move rfl) ?_
            refine wl_val wn rfl (rv_add rfl rfl) ?_
            refine wl_val wn rfl (rv_assign rfl) ?_
            refine wl_nil ?_
            obtain rfl := Option.some.inj h103
            exact qe_mid' ⟨_, rfl, a71, n72, c73, K67, rfl, hS70, hl68, hs74, (w64_rng _)⟩ ⟨rfl, rfl, rfl, rfl, rfl, trivial⟩
        · have h80 := cond_f hb79 h77
          refine wc_exit ?_
          refine qe_then_exit ?_
          refine qe_then_exit ?_
          obtain rfl := Option.some.inj h80
          have e158 := hx78 _ rfl
          subst e158
          refine qe_block_eq ?_
          obtain rfl := Option.some.inj h66
          exact qe_mid' ⟨a71, n72, c73, K67, rfl, hS70, hl68, hs74⟩ ⟨rfl, trivial⟩
      · rintro _ w57 ⟨a59, n60, c61, K55, rfl, hS58, hl56, hs62⟩
        refine qe_seq ?_
        refine wc_seq ?_
        refine wc_region ?_
        refine wl_val wn rfl (rv_move rfl) ?_
        refine wl_val wn rfl (rv_assign rfl) ?_
        refine wl_nil ?_
        refine qe_seq ?_
        refine wc_ret ?_
        obtain rfl := Option.some.inj h54
        exact qe_ret (vs := [_]) Try.results17 ⟨rfl, trivial⟩ ⟨a59, n60, c61, K55, rfl, hS58, hs62⟩

theorem ok_laws_foFind (F : Nat) {w : World} {K : KMap} {a1 : Option Addr} {n2 c3 : Nat} {p0_docs : List GDoc} {p1_id : Int} {r : GDoc} (hS : SH w K [] w K []) (hs4 : SliceAt tGDoc K a1 n2 c3 p0_docs) (hr5 : rng64 p1_id) (hm : M.laws_foFind F p0_docs p1_id = some r) :
    Calls Try.prog 20 #[.slice a1 n2 c3, .int .i64 p1_id] w fun e w' => ∃ (a_2 : Option Addr) (n_3 c_4 : Nat) (a_6 : Option Addr) (n_7 c_8 : Nat) (K' : KMap), e = .returned (.agg #[.int .i64 r.Id, .slice a_2 n_3 c_4, .slice a_6 n_7 c_8]) ∧ SH w K [] w' K' [] ∧ rng64 r.Id ∧ SliceAt tGField K' a_2 n_3 c_4 r.Fields ∧ SliceAt tGAttr K' a_6 n_7 c_8 r.Nums := by
  rw [M.laws_foFind] at hm
  refine calls_in Try.func20 rfl Try.ntmps20 rfl ?_
  refine wc_seq ?_
  refine wc_region ?_
  refine wl_alloc wn rfl tf43 hS ?_
  intro g6 w7 hS8
  have hS9 : SH _ _ _ _ _ [obj g6 [.int .i64 0, .slice none 0 0, .slice none 0 0] 43] := hS8
  refine wl_nil ?_
  refine qe_seq ?_
  refine wc_seq ?_
  refine wc_seq ?_
  refine wc_region ?_
  refine wl_val wn rfl (rv_assign (v := .int .i64 0) rfl) ?_
  refine wl_nil ?_
  refine qe_seq ?_
  obtain ⟨o10, h11, h12⟩ := Option.bind_eq_some_iff.1 hm
  refine wc_cutg (fun E' w' => ∃ (s13 : GDoc) (a19 : Option Addr) (n20 c21 : Nat) (a23 : Option Addr) (n24 c25 : Nat) (K14 : KMap), o10 = .inl s13 ∧ E' = [(4, .pointer (some ⟨g6, 0, none⟩))] ∧ SH w K [] w' K14 [obj g6 [.int .i64 s13.Id, .slice a19 n20 c21, .slice a23 n24 c25] 43] ∧ KLe K K14 ∧ rng64 s13.Id ∧ SliceAt tGField K14 a19 n20 c21 s13.Fields ∧ SliceAt tGAttr K14 a23 n24 c25 s13.Nums) ?_ ?_
  · refine wc_block ?_
    obtain ⟨r28, h29, h30⟩ := Option.bind_eq_some_iff.1 h11
    refine wc_while' (fun (s27 : Int × GDoc) E' w' => ∃ (a37 : Option Addr) (n38 c39 : Nat) (a41 : Option Addr) (n42 c43 : Nat) (K31 : KMap), E' = [(0, .slice a1 n2 c3), (1, .int .i64 p1_id), (4, .pointer (some ⟨g6, 0, none⟩)), (5, .int .i64 s27.1)] ∧ SH w K [] w' K31 [obj g6 [.int .i64 s27.2.Id, .slice a37 n38 c39, .slice a41 n42 c43] 43] ∧ KLe K K31 ∧ rng64 s27.1 ∧ rng64 s27.2.Id ∧ SliceAt tGField K31 a37 n38 c39 s27.2.Fields ∧ SliceAt tGAttr K31 a41 n42 c43 s27.2.Nums) h29 ⟨none, 0, 0, none, 0, 0, K, rfl, hS9, (KLe.refl _), (by decide : rng64 0), (by decide : rng64 0), (SliceAt.nil _ _), (SliceAt.nil _ _)⟩ ⟨rfl, rfl, rfl, rfl, trivial⟩ ?_
    rintro s27 _ w33 r45 h46 hx47 ⟨a37, n38, c39, a41, n42, c43, K31, rfl, hS34, hl32, hr35, hr36, hs40, hs44⟩
    refine wc_seq ?_
    refine wc_seq ?_
    refine wc_region ?_
    refine wl_val wn rfl (rv_move rfl) ?_
    refine wl_val wn rfl (rv_move rfl) ?_
    refine wl_val wn rfl (rv_len (t := tGDoc) Try.underlying34 rfl (SliceAt.mono hl32 hs4)) ?_
    refine wl_val wn rfl (rv_lss rfl rfl) ?_
    refine wl_nil ?_
    refine qe_seq ?_
    refine wc_cond rfl (fun hb48 => ?_) (fun hb48 => ?_)
    · have h49 := cond_t hb48 h46
      refine wc_skip ?_
      refine qe_seq ?_
      refine wc_seq ?_
      refine wc_block ?_
      refine wc_seq ?_
      refine wc_region ?_
      refine wl_val wn rfl (rv_move rfl) ?_
      refine wl_val wn rfl (rv_move rfl) ?_
      obtain ⟨x50, hx51, h52⟩ := Option.bind_eq_some_iff.1 h49
      refine wl_indexAddr (t := tGDoc) wn rfl Try.underlying34 tf43 rfl rfl (SliceAt.mono hl32 hs4) hx51 ?_
      intro b53 o54 u55 hu56 ha57
      obtain ⟨a59, n60, c61, a63, n64, c65, rfl, hr58, hs62, hs66⟩ := hu56
      have ha67 : AtK _ b53 o54 [.int .i64 x50.Id, .slice a59 n60 c61, .slice a63 n64 c65] := ha57
      refine wl_val wn rfl (rv_fieldAddr ff43_0 rfl) ?_
      refine wl_val wn rfl (rv_load1 tf3 rfl hS34 (ha67 0 _ rfl)) ?_
      refine wl_val wn rfl (rv_move rfl) ?_
      refine wl_val wn rfl (rv_eql rfl rfl) ?_
      refine wl_nil ?_
      refine qe_seq ?_
      refine wc_cond rfl (fun hb68 => ?_) (fun hb68 => ?_)
      · have h69 := cond_t hb68 h52
        refine wc_seq ?_
        refine wc_region ?_
        refine wl_val wn rfl (rv_move rfl) ?_
        refine wl_val wn rfl (rv_move rfl) ?_
        obtain ⟨x70, hx71, h72⟩ := Option.bind_eq_some_iff.1 h69
        refine wl_indexAddr (t := tGDoc) wn rfl Try.underlying34 tf43 rfl rfl (SliceAt.mono hl32 hs4) hx71 ?_
        intro b73 o74 u75 hu76 ha77
        obtain ⟨a79, n80, c81, a83, n84, c85, rfl, hr78, hs82, hs86⟩ := hu76
        have ha87 : AtK _ b73 o74 [.int .i64 x70.Id, .slice a79 n80 c81, .slice a83 n84 c85] := ha77
        refine wl_val wn rfl (rv_loadS (cs := [.int .i64 x70.Id, .slice a79 n80 c81, .slice a83 n84 c85]) tf43 rfl hS34 ha87 rfl) ?_
        refine wl_store (cs' := [.int .i64 x70.Id, .slice a79 n80 c81, .slice a83 n84 c85]) (v := .agg #[.int .i64 x70.Id, .slice a79 n80 c81, .slice a83 n84 c85]) wn tf43 rfl rfl rfl (by simp [Value.cells, Value.oneCell']) hS34 rfl rfl ?_
        intro w88 hS89
        refine wl_nil ?_
        refine qe_seq ?_
        refine wc_ret ?_
        refine qe_block_ret ?_
        refine qe_then_ret ?_
        refine qe_then_ret ?_
        obtain rfl := Option.some.inj h72
        have e90 := hx47 _ rfl
        subst e90
        refine qe_block_ret ?_
        refine qe_then_ret ?_
        obtain rfl := Option.some.inj h30
        refine qe_then_ret ?_
        obtain rfl := Option.some.inj h12
        have hS91 : SH _ _ _ _ _ [] := SH.sublist hS89 (.cons _ .slnil)
        exact qe_ret (vs := [_]) Try.results20 ⟨⟨_, _, rfl, run_loadVar_at tf43 (cs := [.int .i64 x70.Id, .slice a79 n80 c81, .slice a83 n84 c85]) (fun j c e => by rw [Nat.zero_add, hS89.mem_obj (.head _)]; exact e) (.inl ⟨rfl, rfl, rfl⟩)⟩, trivial⟩ ⟨a79, n80, c81, a83, n84, c85, K31, rfl, hS91, hr78, hs82, hs86⟩
      · have h69 := cond_f hb68 h52
        refine wc_skip ?_
        refine qe_block ?_
        refine qe_seq ?_
        refine wc_region ?_
        refine wl_val wn rfl (rv_move rfl) ?_
        refine wl_val wn rfl (rv_add rfl rfl) ?_
        refine wl_val wn rfl (rv_assign rfl) ?_
        refine wl_nil ?_
        obtain rfl := Option.some.inj h69
        exact qe_mid' ⟨_, rfl, a37, n38, c39, a41, n42, c43, K31, rfl, hS34, hl32, (w64_rng _), hr36, hs40, hs44⟩ ⟨rfl, rfl, rfl, rfl, trivial⟩
    · have h49 := cond_f hb48 h46
      refine wc_exit ?_
      refine qe_then_exit ?_
      refine qe_then_exit ?_
      obtain rfl := Option.some.inj h49
      have e92 := hx47 _ rfl
      subst e92
      refine qe_block_eq ?_
      obtain rfl := Option.some.inj h30
      exact qe_mid' ⟨_, a37, n38, c39, a41, n42, c43, K31, rfl, rfl, hS34, hl32, hr36, hs40, hs44⟩ ⟨rfl, trivial⟩
  · rintro _ w16 ⟨s13, a19, n20, c21, a23, n24, c25, K14, rfl, rfl, hS17, hl15, hr18, hs22, hs26⟩
    refine qe_seq ?_
    refine wc_seq ?_
    refine wc_region ?_
    refine wl_val wn rfl (rv_build (cs := #[.int .i64 0, .slice none 0 0, .slice none 0 0]) sp43 tf43 rfl (by kernel_rfl)) ?_
    refine wl_store (cs' := [.int .i64 0, .slice none 0 0, .slice none 0 0]) (v := .agg #[.int .i64 0, .slice none 0 0, .slice none 0 0]) wn tf43 rfl rfl rfl (by simp [Value.cells, Value.oneCell']) hS17 rfl rfl ?_
    intro w95 hS96
    refine wl_nil ?_
    refine qe_seq ?_
    refine wc_ret ?_
    obtain rfl := Option.some.inj h12
    have hS97 : SH _ _ _ _ _ [] := SH.sublist hS96 (.cons _ .slnil)
    exact qe_ret (vs := [_]) Try.results20 ⟨⟨_, _, rfl, run_loadVar_at tf43 (cs := [.int .i64 0, .slice none 0 0, .slice none 0 0]) (fun j c e => by rw [Nat.zero_add, hS96.mem_obj (.head _)]; exact e) (.inl ⟨rfl, rfl, rfl⟩)⟩, trivial⟩ ⟨none, 0, 0, none, 0, 0, K14, rfl, hS97, (by decide : rng64 0), (SliceAt.nil _ _), (SliceAt.nil _ _)⟩
end Go.Proofs.Ytajfhpaokbgmeaa
