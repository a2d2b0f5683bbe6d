/-
  Walks of the functions. Printed by gen.py.
-/
import Derived.Test.YtdopcpaapniioaaWalkA1
set_option linter.unusedVariables false
set_option maxRecDepth 100000
namespace Go.Proofs.Ytdopcpaapniioaa
open Go Go.Fk Go.RowKit

theorem ok_spec_l1In (F : Nat) {w : World} {K : KMap} {p0_n : Int} {p1_low : Int} {p2_high : Int} {r : Bool} (hS : SH w K [] w K []) (hr1 : rng64 p0_n) (hr2 : rng64 p1_low) (hr3 : rng64 p2_high) (hm : M.spec_l1In F p0_n p1_low p2_high = some r) :
    Calls Try.prog 69 #[.int .i64 p0_n, .int .i64 p1_low, .int .i64 p2_high] w fun e w' => ∃ (K' : KMap), e = .returned (.bool r) ∧ SH w K [] w' K' [] := by
  rw [M.spec_l1In] at hm
  refine calls_in Try.func69 rfl Try.ntmps69 rfl ?_
  refine wc_seq ?_
  refine wc_region ?_
  refine wl_val wn rfl (rv_assign (v := .bool false) rfl) ?_
  refine wl_nil ?_
  refine qe_seq ?_
  refine wc_seq ?_
  refine wc_region ?_
  refine wl_val wn rfl (rv_move rfl) ?_
  refine wl_val wn rfl (rv_move rfl) ?_
  refine wl_val wn rfl (rv_geq rfl rfl) ?_
  refine wl_val wn rfl (rv_move rfl) ?_
  rcases bool_tf (decide (p1_low ≤ p0_n)) with hb4 | hb4
  · have h5 := cond_t hb4 hm
    refine wl_val (wg rfl rfl hb4) rfl (rv_move rfl) ?_
    refine wl_val (wg rfl rfl hb4) rfl (rv_move rfl) ?_
    refine wl_val (wg rfl rfl hb4) rfl (rv_leq rfl rfl) ?_
    refine wl_val wn rfl (rv_pick_t rfl hb4 rfl) ?_
    refine wl_val wn rfl (rv_assign rfl) ?_
    refine wl_nil ?_
    refine qe_seq ?_
    refine wc_ret ?_
    obtain rfl := Option.some.inj h5
    exact qe_ret (vs := [_]) Try.results69 ⟨rfl, trivial⟩ ⟨K, rfl, hS⟩
  · have h5 := cond_f hb4 hm
    refine wl_un (ug rfl rfl hb4) rfl ?_
    refine wl_un (ug rfl rfl hb4) rfl ?_
    refine wl_un (ug rfl rfl hb4) rfl ?_
    refine wl_val wn rfl (rv_pick_f (v := .bool false) rfl hb4 rfl) ?_
    refine wl_val wn rfl (rv_assign rfl) ?_
    refine wl_nil ?_
    refine qe_seq ?_
    refine wc_ret ?_
    obtain rfl := Option.some.inj h5
    exact qe_ret (vs := [_]) Try.results69 ⟨rfl, trivial⟩ ⟨K, rfl, hS⟩

set_option maxHeartbeats 2000000 in
theorem ok_spec_l1Fold (F : Nat) {w : World} {K : KMap} {p0_b : UInt8} {r : UInt8} (hS : SH w K [] w K []) (hm : M.spec_l1Fold F p0_b = some r) :
    Calls Try.prog 91 #[iv8 p0_b] w fun e w' => ∃ (K' : KMap), e = .returned (iv8 r) ∧ SH w K [] w' K' [] := by
  rw [M.spec_l1Fold] at hm
  refine calls_in Try.func91 rfl Try.ntmps91 rfl ?_
  refine wc_seq ?_
  refine wc_region ?_
  refine wl_val wn rfl (rv_assign (v := iv8 0) rfl) ?_
  refine wl_nil ?_
  refine qe_seq ?_
  refine wc_seq ?_
  refine wc_block ?_
  refine wc_seq ?_
  obtain ⟨o1, h2, h3⟩ := Option.bind_eq_some_iff.1 hm
  refine wc_cutg (fun E' w' => ∃ (K4 : KMap), E' = [(0, iv8 p0_b), (3, .bool o1)] ∧ SH w K [] w' K4 [] ∧ KLe K K4) ?_ ?_
  · refine wc_region ?_
    refine wl_val wn rfl (rv_move rfl) ?_
    refine wl_val wn rfl (rv_bge (b := (65 : UInt8)) rfl rfl) ?_
    refine wl_val wn rfl (rv_move rfl) ?_
    rcases bool_tf (decide ((65 : UInt8) ≤ p0_b)) with hb8 | hb8
    · have h9 := cond_t hb8 h2
      refine wl_val (wg rfl rfl hb8) rfl (rv_move rfl) ?_
      refine wl_val (wg rfl rfl hb8) rfl (rv_ble (b := (90 : UInt8)) rfl rfl) ?_
      refine wl_val wn rfl (rv_pick_t rfl hb8 rfl) ?_
      refine wl_val wn rfl (rv_assign rfl) ?_
      refine wl_nil ?_
      obtain rfl := Option.some.inj h9
      exact qe_mid' ⟨K, rfl, hS, (KLe.refl _)⟩ ⟨rfl, rfl, trivial⟩
    · have h9 := cond_f hb8 h2
      refine wl_un (ug rfl rfl hb8) rfl ?_
      refine wl_un (ug rfl rfl hb8) rfl ?_
      refine wl_val wn rfl (rv_pick_f (v := .bool false) rfl hb8 rfl) ?_
      refine wl_val wn rfl (rv_assign rfl) ?_
      refine wl_nil ?_
      obtain rfl := Option.some.inj h9
      exact qe_mid' ⟨K, rfl, hS, (KLe.refl _)⟩ ⟨rfl, rfl, trivial⟩
  · rintro _ w6 ⟨K4, rfl, hS7, hl5⟩
    refine qe_seq ?_
    refine wc_cond rfl (fun hb10 => ?_) (fun hb10 => ?_)
    · have h11 := cond_t hb10 h3
      refine wc_seq ?_
      refine wc_region ?_
      refine wl_val wn rfl (rv_move rfl) ?_
      refine wl_val wn rfl (rv_badd (b := (32 : UInt8)) rfl rfl) ?_
      refine wl_val wn rfl (rv_assign rfl) ?_
      refine wl_nil ?_
      refine qe_seq ?_
      refine wc_ret ?_
      refine qe_block_ret ?_
      refine qe_then_ret ?_
      obtain rfl := Option.some.inj h11
      exact qe_ret (vs := [_]) Try.results91 ⟨rfl, trivial⟩ ⟨K4, rfl, hS7⟩
    · have h11 := cond_f hb10 h3
      refine wc_seq ?_
      obtain ⟨o12, h13, h14⟩ := Option.bind_eq_some_iff.1 h11
      refine wc_cutg (fun E' w' => ∃ (K15 : KMap), E' = [(0, iv8 p0_b), (12, .bool o12)] ∧ SH w K [] w' K15 [] ∧ KLe K4 K15) ?_ ?_
      · refine wc_region ?_
        refine wl_val wn rfl (rv_move rfl) ?_
        refine wl_val wn rfl (rv_bge (b := (97 : UInt8)) rfl rfl) ?_
        refine wl_val wn rfl (rv_move rfl) ?_
        rcases bool_tf (decide ((97 : UInt8) ≤ p0_b)) with hb19 | hb19
        · have h20 := cond_t hb19 h13
          refine wl_val (wg rfl rfl hb19) rfl (rv_move rfl) ?_
          refine wl_val (wg rfl rfl hb19) rfl (rv_ble (b := (122 : UInt8)) rfl rfl) ?_
          refine wl_val wn rfl (rv_pick_t rfl hb19 rfl) ?_
          refine wl_val wn rfl (rv_move rfl) ?_
          rcases bool_tf (decide (p0_b ≤ (122 : UInt8))) with hb21 | hb21
          · have h22 := cond_t hb21 h20
            refine wl_un (ug rfl rfl hb21) rfl ?_
            refine wl_un (ug rfl rfl hb21) rfl ?_
            refine wl_un (ug rfl rfl hb21) rfl ?_
            refine wl_un (uu rfl rfl) rfl ?_
            refine wl_un (uu rfl rfl) rfl ?_
            refine wl_un (ug rfl rfl hb21) rfl ?_
            refine wl_val wn rfl (rv_pick_t (v := .bool true) rfl hb21 rfl) ?_
            refine wl_val wn rfl (rv_assign rfl) ?_
            refine wl_nil ?_
            obtain rfl := Option.some.inj h22
            exact qe_mid' ⟨K4, rfl, hS7, (KLe.refl _)⟩ ⟨rfl, rfl, trivial⟩
          · have h22 := cond_f hb21 h20
            refine wl_val (wg rfl rfl hb21) rfl (rv_move rfl) ?_
            refine wl_val (wg rfl rfl hb21) rfl (rv_bge (b := (48 : UInt8)) rfl rfl) ?_
            refine wl_val (wg rfl rfl hb21) rfl (rv_move rfl) ?_
            rcases bool_tf (decide ((48 : UInt8) ≤ p0_b)) with hb23 | hb23
            · have h24 := cond_t hb23 h22
              refine wl_val (wg rfl rfl hb23) rfl (rv_move rfl) ?_
              refine wl_val (wg rfl rfl hb23) rfl (rv_ble (b := (57 : UInt8)) rfl rfl) ?_
              refine wl_val (wg rfl rfl hb21) rfl (rv_pick_t rfl hb23 rfl) ?_
              refine wl_val wn rfl (rv_pick_f rfl hb21 rfl) ?_
              refine wl_val wn rfl (rv_assign rfl) ?_
              refine wl_nil ?_
              obtain rfl := Option.some.inj h24
              exact qe_mid' ⟨K4, rfl, hS7, (KLe.refl _)⟩ ⟨rfl, rfl, trivial⟩
            · have h24 := cond_f hb23 h22
              refine wl_un (ug rfl rfl hb23) rfl ?_
              refine wl_un (ug rfl rfl hb23) rfl ?_
              refine wl_val (wg rfl rfl hb21) rfl (rv_pick_f (v := .bool false) rfl hb23 rfl) ?_
              refine wl_val wn rfl (rv_pick_f rfl hb21 rfl) ?_
              refine wl_val wn rfl (rv_assign rfl) ?_
              refine wl_nil ?_
              obtain rfl := Option.some.inj h24
              exact qe_mid' ⟨K4, rfl, hS7, (KLe.refl _)⟩ ⟨rfl, rfl, trivial⟩
        · have h20 := cond_f hb19 h13
          refine wl_un (ug rfl rfl hb19) rfl ?_
          refine wl_un (ug rfl rfl hb19) rfl ?_
          refine wl_val wn rfl (rv_pick_f (v := .bool false) rfl hb19 rfl) ?_
          refine wl_val wn rfl (rv_move rfl) ?_
          refine wl_val (wg rfl rfl rfl) rfl (rv_move rfl) ?_
          refine wl_val (wg rfl rfl rfl) rfl (rv_bge (b := (48 : UInt8)) rfl rfl) ?_
          refine wl_val (wg rfl rfl rfl) rfl (rv_move rfl) ?_
          rcases bool_tf (decide ((48 : UInt8) ≤ p0_b)) with hb25 | hb25
          · have h26 := cond_t hb25 h20
            refine wl_val (wg rfl rfl hb25) rfl (rv_move rfl) ?_
            refine wl_val (wg rfl rfl hb25) rfl (rv_ble (b := (57 : UInt8)) rfl rfl) ?_
            refine wl_val (wg rfl rfl rfl) rfl (rv_pick_t rfl hb25 rfl) ?_
            refine wl_val wn rfl (rv_pick_f rfl rfl rfl) ?_
            refine wl_val wn rfl (rv_assign rfl) ?_
            refine wl_nil ?_
            obtain rfl := Option.some.inj h26
            exact qe_mid' ⟨K4, rfl, hS7, (KLe.refl _)⟩ ⟨rfl, rfl, trivial⟩
          · have h26 := cond_f hb25 h20
            refine wl_un (ug rfl rfl hb25) rfl ?_
            refine wl_un (ug rfl rfl hb25) rfl ?_
            refine wl_val (wg rfl rfl rfl) rfl (rv_pick_f (v := .bool false) rfl hb25 rfl) ?_
            refine wl_val wn rfl (rv_pick_f rfl rfl rfl) ?_
            refine wl_val wn rfl (rv_assign rfl) ?_
            refine wl_nil ?_
            obtain rfl := Option.some.inj h26
            exact qe_mid' ⟨K4, rfl, hS7, (KLe.refl _)⟩ ⟨rfl, rfl, trivial⟩
      · rintro _ w17 ⟨K15, rfl, hS18, hl16⟩
        refine qe_seq ?_
        refine wc_cond rfl (fun hb27 => ?_) (fun hb27 => ?_)
        · have h28 := cond_t hb27 h14
          refine wc_seq ?_
          refine wc_region ?_
          refine wl_val wn rfl (rv_move rfl) ?_
          refine wl_val wn rfl (rv_assign rfl) ?_
          refine wl_nil ?_
          refine qe_seq ?_
          refine wc_ret ?_
          refine qe_block_ret ?_
          refine qe_then_ret ?_
          obtain rfl := Option.some.inj h28
          exact qe_ret (vs := [_]) Try.results91 ⟨rfl, trivial⟩ ⟨K15, rfl, hS18⟩
        · have h28 := cond_f hb27 h14
          refine wc_skip ?_
          refine qe_block ?_
          refine qe_seq ?_
          refine wc_seq ?_
          refine wc_region ?_
          refine wl_val wn rfl (rv_assign (v := iv8 0) rfl) ?_
          refine wl_nil ?_
          refine qe_seq ?_
          refine wc_ret ?_
          obtain rfl := Option.some.inj h28
          exact qe_ret (vs := [_]) Try.results91 ⟨rfl, trivial⟩ ⟨K15, rfl, hS18⟩

theorem ok_spec_l1WordOk (F : Nat) {w : World} {K : KMap} {p0_s : Str} {r : Bool} (hS : SH w K [] w K []) (hl1 : p0_s.length ≤ maxLen) (hm : M.spec_l1WordOk F p0_s = some r) :
    Calls Try.prog 77 #[sv p0_s] w fun e w' => ∃ (K' : KMap), e = .returned (.bool r) ∧ SH w K [] w' K' [] := by
  rw [M.spec_l1WordOk] at hm
  refine calls_in Try.func77 rfl Try.ntmps77 rfl ?_
  refine wc_seq ?_
  refine wc_region ?_
  refine wl_val wn rfl (rv_assign (v := .bool false) rfl) ?_
  refine wl_nil ?_
  refine qe_seq ?_
  refine wc_seq ?_
  refine wc_seq ?_
  refine wc_region ?_
  refine wl_val wn rfl (rv_assign (v := .int .i64 0) rfl) ?_
  refine wl_nil ?_
  refine qe_seq ?_
  obtain ⟨o2, h3, h4⟩ := Option.bind_eq_some_iff.1 hm
  refine wc_cutg (fun E' w' => ∃ (s5 : Unit) (K6 : KMap), o2 = .inl s5 ∧ E' = [(0, sv p0_s)] ∧ SH w K [] w' K6 [] ∧ KLe K K6) ?_ ?_
  · refine wc_block ?_
    obtain ⟨r11, h12, h13⟩ := Option.bind_eq_some_iff.1 h3
    refine wc_while' (fun (s10 : Int) E' w' => ∃ (K14 : KMap), E' = [(0, sv p0_s), (3, .int .i64 s10)] ∧ SH w K [] w' K14 [] ∧ KLe K K14 ∧ rng64 s10) h12 ⟨K, rfl, hS, (KLe.refl _), (by decide : rng64 0)⟩ ⟨rfl, rfl, trivial⟩ ?_
    rintro s10 _ w16 r19 h20 hx21 ⟨K14, rfl, hS17, hl15, hr18⟩
    refine wc_seq ?_
    refine wc_seq ?_
    refine wc_region ?_
    refine wl_val wn rfl (rv_move rfl) ?_
    refine wl_val wn rfl (rv_move rfl) ?_
    refine wl_val wn rfl (rv_slen Try.underlying9 rfl) ?_
    refine wl_val wn rfl (rv_lss rfl rfl) ?_
    refine wl_nil ?_
    refine qe_seq ?_
    refine wc_cond rfl (fun hb22 => ?_) (fun hb22 => ?_)
    · have h23 := cond_t hb22 h20
      refine wc_skip ?_
      refine qe_seq ?_
      refine wc_seq ?_
      refine wc_block ?_
      refine wc_seq ?_
      obtain ⟨o24, h25, h26⟩ := Option.bind_eq_some_iff.1 h23
      refine wc_cutg (fun E' w' => ∃ (K27 : KMap), E' = [(0, sv p0_s), (3, .int .i64 s10), (23, .bool o24)] ∧ SH w K [] w' K27 [] ∧ KLe K14 K27) ?_ ?_
      · refine wc_quiet mixed (by kernel_rfl) hS17 ?_
        refine wq_val wn rfl (fun _ _ => (rv_move rfl)) ?_
        refine wq_val wn rfl (fun _ _ => (rv_move rfl)) ?_
        obtain ⟨x31, hx32, h33⟩ := Option.bind_eq_some_iff.1 h25
        refine wq_val wn rfl (fun _ _ => (rv_sidx Try.underlying9 rfl rfl hx32)) ?_
        obtain ⟨r34, hx35, h36⟩ := Option.bind_eq_some_iff.1 h33
        refine wq_call (v := iv8 r34) wn rfl (fun _ => rt_call (vs := [iv8 x31]) co91 rfl) (fun w39 ⟨K37, hS38, hl40⟩ => ((ok_spec_l1Fold F) hS38.enter0  hx35).mono fun e w' ⟨K', he, hS'⟩ => ⟨he, K', hS38.call0 hS', hl40.trans hS'.le⟩) ?_
        refine wq_val wn rfl (fun _ _ => (rv_move rfl)) ?_
        refine wq_val wn rfl (fun _ _ => (rv_move rfl)) ?_
        obtain ⟨x41, hx42, h43⟩ := Option.bind_eq_some_iff.1 h36
        refine wq_val wn rfl (fun _ _ => (rv_sidx Try.underlying9 rfl rfl hx42)) ?_
        refine wq_val wn rfl (fun _ _ => (rv_bne rfl rfl)) ?_
        refine wq_val wn rfl (fun _ _ => (rv_move rfl)) ?_
        rcases bool_tf ((!(r34 == x41))) with hb44 | hb44
        · have h45 := cond_t hb44 h43
          refine wq_un (ug rfl rfl hb44) rfl ?_
          refine wq_un (ug rfl rfl hb44) rfl ?_
          refine wq_un (ug rfl rfl hb44) rfl ?_
          refine wq_un (ug rfl rfl hb44) rfl ?_
          refine wq_val wn rfl (fun _ _ => (rv_pick_t (v := .bool true) rfl hb44 rfl)) ?_
          refine wq_nil ?_
          rintro w47 ⟨K46, hS48, hl49⟩
          obtain rfl := Option.some.inj h45
          exact qe_mid' ⟨K46, rfl, hS48, hl49⟩ ⟨rfl, rfl, rfl, trivial⟩
        · have h45 := cond_f hb44 h43
          refine wq_val (wg rfl rfl hb44) rfl (fun _ _ => (rv_move rfl)) ?_
          refine wq_val (wg rfl rfl hb44) rfl (fun _ _ => (rv_move rfl)) ?_
          obtain ⟨x50, hx51, h52⟩ := Option.bind_eq_some_iff.1 h45
          refine wq_val (wg rfl rfl hb44) rfl (fun _ _ => (rv_sidx Try.underlying9 rfl rfl hx51)) ?_
          refine wq_val (wg rfl rfl hb44) rfl (fun _ _ => (rv_beq (b := (0 : UInt8)) rfl rfl)) ?_
          refine wq_val wn rfl (fun _ _ => (rv_pick_f rfl hb44 rfl)) ?_
          refine wq_nil ?_
          rintro w54 ⟨K53, hS55, hl56⟩
          obtain rfl := Option.some.inj h52
          exact qe_mid' ⟨K53, rfl, hS55, hl56⟩ ⟨rfl, rfl, rfl, trivial⟩
      · rintro _ w29 ⟨K27, rfl, hS30, hl28⟩
        refine qe_seq ?_
        refine wc_cond rfl (fun hb57 => ?_) (fun hb57 => ?_)
        · have h58 := cond_t hb57 h26
          refine wc_seq ?_
          refine wc_region ?_
          refine wl_val wn rfl (rv_assign (v := .bool false) rfl) ?_
          refine wl_nil ?_
          refine qe_seq ?_
          refine wc_ret ?_
          refine qe_block_ret ?_
          refine qe_then_ret ?_
          refine qe_then_ret ?_
          obtain rfl := Option.some.inj h58
          have e59 := hx21 _ rfl
          subst e59
          refine qe_block_ret ?_
          refine qe_then_ret ?_
          obtain rfl := Option.some.inj h13
          refine qe_then_ret ?_
          obtain rfl := Option.some.inj h4
          exact qe_ret (vs := [_]) Try.results77 ⟨rfl, trivial⟩ ⟨K27, rfl, hS30⟩
        · have h58 := cond_f hb57 h26
          refine wc_skip ?_
          refine qe_block ?_
          refine qe_seq ?_
          refine wc_region ?_
          refine wl_val wn rfl (rv_move rfl) ?_
          refine wl_val wn rfl (rv_add rfl rfl) ?_
          refine wl_val wn rfl (rv_assign rfl) ?_
          refine wl_nil ?_
          obtain rfl := Option.some.inj h58
          exact qe_mid' ⟨_, rfl, K27, rfl, hS30, (hl15.trans hl28), (w64_rng _)⟩ ⟨rfl, rfl, trivial⟩
    · have h23 := cond_f hb22 h20
      refine wc_exit ?_
      refine qe_then_exit ?_
      refine qe_then_exit ?_
      obtain rfl := Option.some.inj h23
      have e60 := hx21 _ rfl
      subst e60
      refine qe_block_eq ?_
      obtain rfl := Option.some.inj h13
      exact qe_mid' ⟨_, K14, rfl, rfl, hS17, hl15⟩ ⟨rfl, trivial⟩
  · rintro _ w8 ⟨s5, K6, rfl, rfl, hS9, hl7⟩
    refine qe_seq ?_
    refine wc_seq ?_
    refine wc_region ?_
    refine wl_val wn rfl (rv_move rfl) ?_
    refine wl_val wn rfl (rv_slen Try.underlying9 rfl) ?_
    obtain ⟨r63, hx64, h65⟩ := Option.bind_eq_some_iff.1 h4
    refine wl_call wn rfl (rt_call (vs := [.int .i64 (p0_s.length : Int), .int .i64 1, .int .i64 12]) co69 rfl) ((ok_spec_l1In F) hS9.enter0 (rng_nat hl1) (by decide : rng64 1) (by decide : rng64 12) hx64) ?_
    rintro e69 w67 ⟨K66, rfl, hS68⟩
    refine ⟨_, rfl, ?_⟩
    have hS70 : SH _ _ _ _ _ [] := SH.call0 hS9 hS68
    refine wl_val wn rfl (rv_assign rfl) ?_
    refine wl_nil ?_
    refine qe_seq ?_
    refine wc_ret ?_
    obtain rfl := Option.some.inj h65
    exact qe_ret (vs := [_]) Try.results77 ⟨rfl, trivial⟩ ⟨K66, rfl, hS70⟩

set_option maxHeartbeats 2000000 in
theorem ok_spec_l4Sorted (F : Nat) {w : World} {K : KMap} {a1 : Option Addr} {n2 c3 : Nat} {p0_list : List Str} {r : Bool} (hS : SH w K [] w K []) (hs4 : SliceAt tStr K a1 n2 c3 p0_list) (hm : M.spec_l4Sorted F p0_list = some r) :
    Calls Try.prog 54 #[.slice a1 n2 c3] w fun e w' => ∃ (K' : KMap), e = .returned (.bool r) ∧ SH w K [] w' K' [] := by
  rw [M.spec_l4Sorted] at hm
  refine calls_in Try.func54 rfl Try.ntmps54 rfl ?_
  refine wc_seq ?_
  refine wc_region ?_
  refine wl_val wn rfl (rv_assign (v := .bool false) rfl) ?_
  refine wl_nil ?_
  refine qe_seq ?_
  refine wc_seq ?_
  refine wc_seq ?_
  refine wc_region ?_
  refine wl_val wn rfl (rv_assign (v := .int .i64 0) rfl) ?_
  refine wl_nil ?_
  refine qe_seq ?_
  obtain ⟨o5, h6, h7⟩ := Option.bind_eq_some_iff.1 hm
  refine wc_cutg (fun E' w' => ∃ (s8 : Unit) (K9 : KMap), o5 = .inl s8 ∧ E' = [(0, .slice a1 n2 c3)] ∧ SH w K [] w' K9 [] ∧ KLe K K9) ?_ ?_
  · refine wc_block ?_
    obtain ⟨r14, h15, h16⟩ := Option.bind_eq_some_iff.1 h6
    refine wc_while' (fun (s13 : Int) E' w' => ∃ (K17 : KMap), E' = [(0, .slice a1 n2 c3), (3, .int .i64 s13)] ∧ SH w K [] w' K17 [] ∧ KLe K K17 ∧ rng64 s13) h15 ⟨K, rfl, hS, (KLe.refl _), (by decide : rng64 0)⟩ ⟨rfl, rfl, trivial⟩ ?_
    rintro s13 _ w19 r22 h23 hx24 ⟨K17, rfl, hS20, hl18, hr21⟩
    refine wc_seq ?_
    refine wc_seq ?_
    refine wc_region ?_
    refine wl_val wn rfl (rv_move rfl) ?_
    refine wl_val wn rfl (rv_move rfl) ?_
    refine wl_val wn rfl (rv_len (t := tStr) Try.underlying26 rfl (SliceAt.mono hl18 hs4)) ?_
    refine wl_val wn rfl (rv_lss rfl rfl) ?_
    refine wl_nil ?_
    refine qe_seq ?_
    refine wc_cond rfl (fun hb25 => ?_) (fun hb25 => ?_)
    · have h26 := cond_t hb25 h23
      refine wc_skip ?_
      refine qe_seq ?_
      refine wc_seq ?_
      refine wc_block ?_
      refine wc_seq ?_
      obtain ⟨o27, h28, h29⟩ := Option.bind_eq_some_iff.1 h26
      refine wc_cutg (fun E' w' => ∃ (K30 : KMap), E' = [(0, .slice a1 n2 c3), (3, .int .i64 s13), (31, .bool o27)] ∧ SH w K [] w' K30 [] ∧ KLe K17 K30) ?_ ?_
      · refine wc_quiet mixed (by kernel_rfl) hS20 ?_
        refine wq_val wn rfl (fun _ _ => (rv_move rfl)) ?_
        refine wq_val wn rfl (fun _ _ => (rv_move rfl)) ?_
        obtain ⟨x34, hx35, h36⟩ := Option.bind_eq_some_iff.1 h28
        refine wq_indexAddr (t := tStr) wn rfl Try.underlying26 tf9 rfl rfl (SliceAt.mono hl18 hs4) hx35 ?_
        intro b37 o38 u39 hu40 ha41
        obtain ⟨rfl, hl42⟩ := hu40
        have ha43 : AtK _ b37 o38 [sv x34] := ha41
        refine wq_val wn rfl (rq_load1 tf9 rfl (ha43 0 _ rfl)) ?_
        obtain ⟨r44, hx45, h46⟩ := Option.bind_eq_some_iff.1 h36
        refine wq_call (v := .bool r44) wn rfl (fun _ => rt_call (vs := [sv x34]) co77 rfl) (fun w49 ⟨K47, hS48, hl50⟩ => ((ok_spec_l1WordOk F) hS48.enter0 hl42 hx45).mono fun e w' ⟨K', he, hS'⟩ => ⟨he, K', hS48.call0 hS', hl50.trans hS'.le⟩) ?_
        refine wq_val wn rfl (fun _ _ => (rv_not rfl)) ?_
        refine wq_val wn rfl (fun _ _ => (rv_move rfl)) ?_
        rcases bool_tf ((!r44)) with hb51 | hb51
        · have h52 := cond_t hb51 h46
          refine wq_un (ug rfl rfl hb51) rfl ?_
          refine wq_un (ug rfl rfl hb51) rfl ?_
          refine wq_un (ug rfl rfl hb51) rfl ?_
          refine wq_un (uu rfl rfl) rfl ?_
          refine wq_un (uu rfl rfl) rfl ?_
          refine wq_un (uu rfl rfl) rfl ?_
          refine wq_un (uu rfl rfl) rfl ?_
          refine wq_un (uu rfl rfl) rfl ?_
          refine wq_un (uu rfl rfl) rfl ?_
          refine wq_un (uu rfl rfl) rfl ?_
          refine wq_un (uu rfl rfl) rfl ?_
          refine wq_un (uu rfl rfl) rfl ?_
          refine wq_un (uu rfl rfl) rfl ?_
          refine wq_un (ug rfl rfl hb51) rfl ?_
          refine wq_val wn rfl (fun _ _ => (rv_pick_t (v := .bool true) rfl hb51 rfl)) ?_
          refine wq_nil ?_
          rintro w54 ⟨K53, hS55, hl56⟩
          obtain rfl := Option.some.inj h52
          exact qe_mid' ⟨K53, rfl, hS55, hl56⟩ ⟨rfl, rfl, rfl, trivial⟩
        · have h52 := cond_f hb51 h46
          refine wq_val (wg rfl rfl hb51) rfl (fun _ _ => (rv_move rfl)) ?_
          refine wq_val (wg rfl rfl hb51) rfl (fun _ _ => (rv_gtr rfl rfl)) ?_
          refine wq_val (wg rfl rfl hb51) rfl (fun _ _ => (rv_move rfl)) ?_
          rcases bool_tf (decide ((0 : Int) < s13)) with hb57 | hb57
          · have h58 := cond_t hb57 h52
            refine wq_val (wg rfl rfl hb57) rfl (fun _ _ => (rv_move rfl)) ?_
            refine wq_val (wg rfl rfl hb57) rfl (fun _ _ => (rv_move rfl)) ?_
            obtain ⟨x59, hx60, h61⟩ := Option.bind_eq_some_iff.1 h58
            refine wq_indexAddr (t := tStr) (wg rfl rfl hb57) rfl Try.underlying26 tf9 rfl rfl (SliceAt.mono hl18 hs4) hx60 ?_
            intro b62 o63 u64 hu65 ha66
            obtain ⟨rfl, hl67⟩ := hu65
            have ha68 : AtK _ b62 o63 [sv x59] := ha66
            refine wq_val (wg rfl rfl hb57) rfl (rq_load1 tf9 rfl (ha68 0 _ rfl)) ?_
            refine wq_val (wg rfl rfl hb57) rfl (fun _ _ => (rv_move rfl)) ?_
            refine wq_val (wg rfl rfl hb57) rfl (fun _ _ => (rv_move rfl)) ?_
            refine wq_val (wg rfl rfl hb57) rfl (fun _ _ => (rv_sub rfl rfl)) ?_
            obtain ⟨x69, hx70, h71⟩ := Option.bind_eq_some_iff.1 h61
            refine wq_indexAddr (t := tStr) (wg rfl rfl hb57) rfl Try.underlying26 tf9 rfl rfl (SliceAt.mono hl18 hs4) hx70 ?_
            intro b72 o73 u74 hu75 ha76
            obtain ⟨rfl, hl77⟩ := hu75
            have ha78 : AtK _ b72 o73 [sv x69] := ha76
            refine wq_val (wg rfl rfl hb57) rfl (rq_load1 tf9 rfl (ha78 0 _ rfl)) ?_
            refine wq_val (wg rfl rfl hb57) rfl (fun _ _ => (rv_sleq rfl rfl)) ?_
            refine wq_val (wg rfl rfl hb51) rfl (fun _ _ => (rv_pick_t rfl hb57 rfl)) ?_
            refine wq_val wn rfl (fun _ _ => (rv_pick_f rfl hb51 rfl)) ?_
            refine wq_nil ?_
            rintro w80 ⟨K79, hS81, hl82⟩
            obtain rfl := Option.some.inj h71
            exact qe_mid' ⟨K79, rfl, hS81, hl82⟩ ⟨rfl, rfl, rfl, trivial⟩
          · have h58 := cond_f hb57 h52
            refine wq_un (ug rfl rfl hb57) rfl ?_
            refine wq_un (ug rfl rfl hb57) rfl ?_
            refine wq_un (ug rfl rfl hb57) rfl ?_
            refine wq_un (ug rfl rfl hb57) rfl ?_
            refine wq_un (ug rfl rfl hb57) rfl ?_
            refine wq_un (ug rfl rfl hb57) rfl ?_
            refine wq_un (ug rfl rfl hb57) rfl ?_
            refine wq_un (ug rfl rfl hb57) rfl ?_
            refine wq_un (ug rfl rfl hb57) rfl ?_
            refine wq_un (ug rfl rfl hb57) rfl ?_
            refine wq_val (wg rfl rfl hb51) rfl (fun _ _ => (rv_pick_f (v := .bool false) rfl hb57 rfl)) ?_
            refine wq_val wn rfl (fun _ _ => (rv_pick_f rfl hb51 rfl)) ?_
            refine wq_nil ?_
            rintro w84 ⟨K83, hS85, hl86⟩
            obtain rfl := Option.some.inj h58
            exact qe_mid' ⟨K83, rfl, hS85, hl86⟩ ⟨rfl, rfl, rfl, trivial⟩
      · rintro _ w32 ⟨K30, rfl, hS33, hl31⟩
        refine qe_seq ?_
        refine wc_cond rfl (fun hb87 => ?_) (fun hb87 => ?_)
        · have h88 := cond_t hb87 h29
          refine wc_seq ?_
          refine wc_region ?_
          refine wl_val wn rfl (rv_assign (v := .bool false) rfl) ?_
          refine wl_nil ?_
          refine qe_seq ?_
          refine wc_ret ?_
          refine qe_block_ret ?_
          refine qe_then_ret ?_
          refine qe_then_ret ?_
          obtain rfl := Option.some.inj h88
          have e89 := hx24 _ rfl
          subst e89
          refine qe_block_ret ?_
          refine qe_then_ret ?_
          obtain rfl := Option.some.inj h16
          refine qe_then_ret ?_
          obtain rfl := Option.some.inj h7
          exact qe_ret (vs := [_]) Try.results54 ⟨rfl, trivial⟩ ⟨K30, rfl, hS33⟩
        · have h88 := cond_f hb87 h29
          refine wc_skip ?_
          refine qe_block ?_
          refine qe_seq ?_
          refine wc_region ?_
          refine wl_val wn rfl (rv_move rfl) ?_
          refine wl_val wn rfl (rv_add rfl rfl) ?_
          refine wl_val wn rfl (rv_assign rfl) ?_
          refine wl_nil ?_
          obtain rfl := Option.some.inj h88
          exact qe_mid' ⟨_, rfl, K30, rfl, hS33, (hl18.trans hl31), (w64_rng _)⟩ ⟨rfl, rfl, trivial⟩
    · have h26 := cond_f hb25 h23
      refine wc_exit ?_
      refine qe_then_exit ?_
      refine qe_then_exit ?_
      obtain rfl := Option.some.inj h26
      have e90 := hx24 _ rfl
      subst e90
      refine qe_block_eq ?_
      obtain rfl := Option.some.inj h16
      exact qe_mid' ⟨_, K17, rfl, rfl, hS20, hl18⟩ ⟨rfl, trivial⟩
  · rintro _ w11 ⟨s8, K9, rfl, rfl, hS12, hl10⟩
    refine qe_seq ?_
    refine wc_seq ?_
    refine wc_region ?_
    refine wl_val wn rfl (rv_move rfl) ?_
    refine wl_val wn rfl (rv_len (t := tStr) Try.underlying26 rfl (SliceAt.mono hl10 hs4)) ?_
    refine wl_val wn rfl (rv_leq rfl rfl) ?_
    refine wl_val wn rfl (rv_assign rfl) ?_
    refine wl_nil ?_
    refine qe_seq ?_
    refine wc_ret ?_
    obtain rfl := Option.some.inj h7
    exact qe_ret (vs := [_]) Try.results54 ⟨rfl, trivial⟩ ⟨K9, rfl, hS12⟩

set_option maxHeartbeats 2000000 in
theorem ok_spec_l4Same (F : Nat) {w : World} {K : KMap} {a2 : Option Addr} {n3 c4 : Nat} {a7 : Option Addr} {n8 c9 : Nat} {p0_a : GState} {p1_b : GState} {r : Bool} (hS : SH w K [] w K []) (hr1 : rng64 p0_a.Many) (hs5 : SliceAt tGArc K a2 n3 c4 p0_a.Arcs) (hr6 : rng64 p1_b.Many) (hs10 : SliceAt tGArc K a7 n8 c9 p1_b.Arcs) (hm : M.spec_l4Same F p0_a p1_b = some r) :
    Calls Try.prog 86 #[.agg #[.bool p0_a.Final, .int .i64 p0_a.Many, .slice a2 n3 c4], .agg #[.bool p1_b.Final, .int .i64 p1_b.Many, .slice a7 n8 c9]] w fun e w' => ∃ (K' : KMap), e = .returned (.bool r) ∧ SH w K [] w' K' [] := by
  rw [M.spec_l4Same] at hm
  refine calls_in Try.func86 rfl Try.ntmps86 rfl ?_
  refine wc_seq ?_
  refine wc_region ?_
  refine wl_box wn rfl rfl hS ?_
  intro g11 w12 hS13
  have hS14 : SH _ _ _ _ _ [obj g11 [.bool p0_a.Final, .int .i64 p0_a.Many, .slice a2 n3 c4] 33] := hS13
  refine wl_box wn rfl rfl hS14 ?_
  intro g15 w16 hS17
  have hS18 : SH _ _ _ _ _ [obj g15 [.bool p1_b.Final, .int .i64 p1_b.Many, .slice a7 n8 c9] 33, _] := hS17
  refine wl_val wn rfl (rv_assign (v := .bool false) rfl) ?_
  refine wl_nil ?_
  refine qe_seq ?_
  refine wc_seq ?_
  refine wc_seq ?_
  obtain ⟨o19, h20, h21⟩ := Option.bind_eq_some_iff.1 hm
  refine wc_cutg (fun E' w' => ∃ (K22 : KMap), E' = [(2, .pointer (some ⟨g11, 0, none⟩)), (3, .pointer (some ⟨g15, 0, none⟩)), (26, .bool o19)] ∧ SH w K [] w' K22 [obj g11 [.bool p0_a.Final, .int .i64 p0_a.Many, .slice a2 n3 c4] 33, obj g15 [.bool p1_b.Final, .int .i64 p1_b.Many, .slice a7 n8 c9] 33] ∧ KLe K K22) ?_ ?_
  · refine wc_region ?_
    refine wl_val wn rfl (rv_fieldAddr ff33_0 rfl) ?_
    refine wl_val wn rfl (rv_loadm1 tf4 rfl (.tail _ (.head _)) hS18 rfl) ?_
    refine wl_val wn rfl (rv_fieldAddr ff33_0 rfl) ?_
    refine wl_val wn rfl (rv_loadm1 tf4 rfl (.head _) hS18 rfl) ?_
    refine wl_val wn rfl (rv_boolne Try.underlying4 rfl rfl) ?_
    refine wl_val wn rfl (rv_move rfl) ?_
    rcases bool_tf ((!(p0_a.Final == p1_b.Final))) with hb26 | hb26
    · have h27 := cond_t hb26 h20
      refine wl_un (ug rfl rfl hb26) rfl ?_
      refine wl_un (ug rfl rfl hb26) rfl ?_
      refine wl_un (ug rfl rfl hb26) rfl ?_
      refine wl_un (ug rfl rfl hb26) rfl ?_
      refine wl_un (ug rfl rfl hb26) rfl ?_
      refine wl_val wn rfl (rv_pick_t (v := .bool true) rfl hb26 rfl) ?_
      refine wl_val wn rfl (rv_move rfl) ?_
      refine wl_un (ug rfl rfl rfl) rfl ?_
      refine wl_un (ug rfl rfl rfl) rfl ?_
      refine wl_un (ug rfl rfl rfl) rfl ?_
      refine wl_un (ug rfl rfl rfl) rfl ?_
      refine wl_un (ug rfl rfl rfl) rfl ?_
      refine wl_un (ug rfl rfl rfl) rfl ?_
      refine wl_un (ug rfl rfl rfl) rfl ?_
      refine wl_val wn rfl (rv_pick_t (v := .bool true) rfl rfl rfl) ?_
      refine wl_nil ?_
      obtain rfl := Option.some.inj h27
      have hS28 : SH _ _ _ _ _ [_, _] := SH.front (p := [_]) hS18
      exact qe_mid' ⟨K, rfl, hS28, (KLe.refl _)⟩ ⟨rfl, rfl, rfl, trivial⟩
    · have h27 := cond_f hb26 h20
      refine wl_val (wg rfl rfl hb26) rfl (rv_fieldAddr ff33_1 rfl) ?_
      refine wl_val (wg rfl rfl hb26) rfl (rv_loadm1 tf3 rfl (.tail _ (.head _)) hS18 rfl) ?_
      refine wl_val (wg rfl rfl hb26) rfl (rv_fieldAddr ff33_1 rfl) ?_
      refine wl_val (wg rfl rfl hb26) rfl (rv_loadm1 tf3 rfl (.head _) hS18 rfl) ?_
      refine wl_val (wg rfl rfl hb26) rfl (rv_neq rfl rfl) ?_
      refine wl_val wn rfl (rv_pick_f rfl hb26 rfl) ?_
      refine wl_val wn rfl (rv_move rfl) ?_
      rcases bool_tf ((!(p0_a.Many == p1_b.Many))) with hb29 | hb29
      · have h30 := cond_t hb29 h27
        refine wl_un (ug rfl rfl hb29) rfl ?_
        refine wl_un (ug rfl rfl hb29) rfl ?_
        refine wl_un (ug rfl rfl hb29) rfl ?_
        refine wl_un (ug rfl rfl hb29) rfl ?_
        refine wl_un (ug rfl rfl hb29) rfl ?_
        refine wl_un (ug rfl rfl hb29) rfl ?_
        refine wl_un (ug rfl rfl hb29) rfl ?_
        refine wl_val wn rfl (rv_pick_t (v := .bool true) rfl hb29 rfl) ?_
        refine wl_nil ?_
        obtain rfl := Option.some.inj h30
        have hS31 : SH _ _ _ _ _ [_, _] := SH.front (p := [_]) hS18
        exact qe_mid' ⟨K, rfl, hS31, (KLe.refl _)⟩ ⟨rfl, rfl, rfl, trivial⟩
      · have h30 := cond_f hb29 h27
        refine wl_val (wg rfl rfl hb29) rfl (rv_fieldAddr ff33_2 rfl) ?_
        refine wl_val (wg rfl rfl hb29) rfl (rv_loadm1 tf31 rfl (.tail _ (.head _)) hS18 rfl) ?_
        refine wl_val (wg rfl rfl hb29) rfl (rv_len (t := tGArc) Try.underlying31 rfl hs5) ?_
        refine wl_val (wg rfl rfl hb29) rfl (rv_fieldAddr ff33_2 rfl) ?_
        refine wl_val (wg rfl rfl hb29) rfl (rv_loadm1 tf31 rfl (.head _) hS18 rfl) ?_
        refine wl_val (wg rfl rfl hb29) rfl (rv_len (t := tGArc) Try.underlying31 rfl hs10) ?_
        refine wl_val (wg rfl rfl hb29) rfl (rv_neq rfl rfl) ?_
        refine wl_val wn rfl (rv_pick_f rfl hb29 rfl) ?_
        refine wl_nil ?_
        obtain rfl := Option.some.inj h30
        have hS32 : SH _ _ _ _ _ [_, _] := SH.front (p := [_]) hS18
        exact qe_mid' ⟨K, rfl, hS32, (KLe.refl _)⟩ ⟨rfl, rfl, rfl, trivial⟩
  · rintro _ w24 ⟨K22, rfl, hS25, hl23⟩
    refine qe_seq ?_
    refine wc_cond rfl (fun hb33 => ?_) (fun hb33 => ?_)
    · have h34 := cond_t hb33 h21
      refine wc_seq ?_
      refine wc_region ?_
      refine wl_val wn rfl (rv_assign (v := .bool false) rfl) ?_
      refine wl_nil ?_
      refine qe_seq ?_
      refine wc_ret ?_
      refine qe_then_ret ?_
      obtain rfl := Option.some.inj h34
      have hS35 : SH _ _ _ _ _ [] := SH.sublist hS25 (.cons _ (.cons _ .slnil))
      exact qe_ret (vs := [_]) Try.results86 ⟨rfl, trivial⟩ ⟨K22, rfl, hS35⟩
    · have h34 := cond_f hb33 h21
      refine wc_skip ?_
      refine qe_seq ?_
      refine wc_seq ?_
      refine wc_seq ?_
      refine wc_region ?_
      refine wl_val wn rfl (rv_assign (v := .int .i64 0) rfl) ?_
      refine wl_nil ?_
      refine qe_seq ?_
      obtain ⟨o36, h37, h38⟩ := Option.bind_eq_some_iff.1 h34
      refine wc_cutg (fun E' w' => ∃ (s39 : Unit) (K40 : KMap), o36 = .inl s39 ∧ E' = [] ∧ SH w K [] w' K40 [] ∧ KLe K22 K40) ?_ ?_
      · refine wc_block ?_
        obtain ⟨r45, h46, h47⟩ := Option.bind_eq_some_iff.1 h37
        refine wc_while' (fun (s44 : Int) E' w' => ∃ (K48 : KMap), E' = [(2, .pointer (some ⟨g11, 0, none⟩)), (3, .pointer (some ⟨g15, 0, none⟩)), (5, .int .i64 s44)] ∧ SH w K [] w' K48 [obj g11 [.bool p0_a.Final, .int .i64 p0_a.Many, .slice a2 n3 c4] 33, obj g15 [.bool p1_b.Final, .int .i64 p1_b.Many, .slice a7 n8 c9] 33] ∧ KLe K22 K48 ∧ rng64 s44) h46 ⟨K22, rfl, hS25, (KLe.refl _), (by decide : rng64 0)⟩ ⟨rfl, rfl, rfl, trivial⟩ ?_
        rintro s44 _ w50 r53 h54 hx55 ⟨K48, rfl, hS51, hl49, hr52⟩
        refine wc_seq ?_
        refine wc_seq ?_
        refine wc_region ?_
        refine wl_val wn rfl (rv_move rfl) ?_
        refine wl_val wn rfl (rv_fieldAddr ff33_2 rfl) ?_
        refine wl_val wn rfl (rv_loadm1 tf31 rfl (.head _) hS51 rfl) ?_
        refine wl_val wn rfl (rv_len (t := tGArc) Try.underlying31 rfl (SliceAt.mono (hl23.trans hl49) hs5)) ?_
        refine wl_val wn rfl (rv_lss rfl rfl) ?_
        refine wl_nil ?_
        refine qe_seq ?_
        refine wc_cond rfl (fun hb56 => ?_) (fun hb56 => ?_)
        · have h57 := cond_t hb56 h54
          refine wc_skip ?_
          refine qe_seq ?_
          refine wc_seq ?_
          refine wc_block ?_
          refine wc_seq ?_
          refine wc_quiet mixed (by kernel_rfl) hS51 ?_
          refine wq_val wn rfl (fun _ _ => (rv_fieldAddr ff33_2 rfl)) ?_
          refine wq_val wn rfl (rq_loadm1 tf31 rfl (.head _) rfl) ?_
          refine wq_val wn rfl (fun _ _ => (rv_move rfl)) ?_
          obtain ⟨x58, hx59, h60⟩ := Option.bind_eq_some_iff.1 h57
          refine wq_indexAddr (t := tGArc) wn rfl Try.underlying31 tf35 rfl rfl (SliceAt.mono (hl23.trans hl49) hs5) hx59 ?_
          intro b61 o62 u63 hu64 ha65
          obtain ⟨rfl, hr66⟩ := hu64
          have ha67 : AtK _ b61 o62 [iv8 x58.Byte, .int .i64 x58.To] := ha65
          refine wq_val wn rfl (rq_loadS (cs := [iv8 x58.Byte, .int .i64 x58.To]) tf35 rfl ha67 rfl) ?_
          refine wq_val wn rfl (fun _ _ => (rv_fieldAddr ff33_2 rfl)) ?_
          refine wq_val wn rfl (rq_loadm1 tf31 rfl (.tail _ (.head _)) rfl) ?_
          refine wq_val wn rfl (fun _ _ => (rv_move rfl)) ?_
          obtain ⟨x68, hx69, h70⟩ := Option.bind_eq_some_iff.1 h60
          refine wq_indexAddr (t := tGArc) wn rfl Try.underlying31 tf35 rfl rfl (SliceAt.mono (hl23.trans hl49) hs10) hx69 ?_
          intro b71 o72 u73 hu74 ha75
          obtain ⟨rfl, hr76⟩ := hu74
          have ha77 : AtK _ b71 o72 [iv8 x68.Byte, .int .i64 x68.To] := ha75
          refine wq_val wn rfl (rq_loadS (cs := [iv8 x68.Byte, .int .i64 x68.To]) tf35 rfl ha77 rfl) ?_
          refine wq_val wn rfl (fun _ _ => (rv_neS eqg35 rfl rfl (eqs35 x58.Byte x58.To x68.Byte x68.To))) ?_
          refine wq_nil ?_
          rintro w79 ⟨K78, hS80, hl81⟩
          refine qe_seq ?_
          refine wc_cond rfl (fun hb82 => ?_) (fun hb82 => ?_)
          · have h83 := cond_t hb82 h70
            refine wc_seq ?_
            refine wc_region ?_
            refine wl_val wn rfl (rv_assign (v := .bool false) rfl) ?_
            refine wl_nil ?_
            refine qe_seq ?_
            refine wc_ret ?_
            refine qe_block_ret ?_
            refine qe_then_ret ?_
            refine qe_then_ret ?_
            obtain rfl := Option.some.inj h83
            have e84 := hx55 _ rfl
            subst e84
            refine qe_block_ret ?_
            refine qe_then_ret ?_
            obtain rfl := Option.some.inj h47
            refine qe_then_ret ?_
            obtain rfl := Option.some.inj h38
            have hS85 : SH _ _ _ _ _ [] := SH.sublist hS80 (.cons _ (.cons _ .slnil))
            exact qe_ret (vs := [_]) Try.results86 ⟨rfl, trivial⟩ ⟨K78, rfl, hS85⟩
          · have h83 := cond_f hb82 h70
            refine wc_skip ?_
            refine qe_block ?_
            refine qe_seq ?_
            refine wc_region ?_
            refine wl_val wn rfl (rv_move rfl) ?_
            refine wl_val wn rfl (rv_add rfl rfl) ?_
            refine wl_val wn rfl (rv_assign rfl) ?_
            refine wl_nil ?_
            obtain rfl := Option.some.inj h83
            exact qe_mid' ⟨_, rfl, K78, rfl, hS80, (hl49.trans hl81), (w64_rng _)⟩ ⟨rfl, rfl, rfl, trivial⟩
        · have h57 := cond_f hb56 h54
          refine wc_exit ?_
          refine qe_then_exit ?_
          refine qe_then_exit ?_
          obtain rfl := Option.some.inj h57
          have e86 := hx55 _ rfl
          subst e86
          refine qe_block_eq ?_
          obtain rfl := Option.some.inj h47
          have hS87 : SH _ _ _ _ _ [] := SH.sublist hS51 (.cons _ (.cons _ .slnil))
          exact qe_mid' ⟨_, K48, rfl, rfl, hS87, hl49⟩ trivial
      · rintro _ w42 ⟨s39, K40, rfl, rfl, hS43, hl41⟩
        refine qe_seq ?_
        refine wc_seq ?_
        refine wc_region ?_
        refine wl_val wn rfl (rv_assign (v := .bool true) rfl) ?_
        refine wl_nil ?_
        refine qe_seq ?_
        refine wc_ret ?_
        obtain rfl := Option.some.inj h38
        exact qe_ret (vs := [_]) Try.results86 ⟨rfl, trivial⟩ ⟨K40, rfl, hS43⟩

theorem ok_spec_l4Add (F : Nat) {w : World} {K : KMap} {a1 : Option Addr} {n2 c3 : Nat} {a6 : Option Addr} {n7 c8 : Nat} {p0_list : List GState} {p1_s : GState} {r : (List GState) × Int} (hS : SH w K (List.filterMap Item.g [tail (.slice a1 n2 c3) 33 3]) w K [tail (.slice a1 n2 c3) 33 3]) (hs4 : SliceAt tGState K a1 n2 c3 p0_list) (hr5 : rng64 p1_s.Many) (hs9 : SliceAt tGArc K a6 n7 c8 p1_s.Arcs) (hm : M.spec_l4Add F p0_list p1_s = some r) :
    Calls Try.prog 78 #[.slice a1 n2 c3, .agg #[.bool p1_s.Final, .int .i64 p1_s.Many, .slice a6 n7 c8]] w fun e w' => ∃ (a_1 : Option Addr) (n_2 c_3 : Nat) (K' : KMap), e = .returned (.tuple #[.slice a_1 n_2 c_3, .int .i64 r.2]) ∧ SH w K (List.filterMap Item.g [tail (.slice a1 n2 c3) 33 3]) w' K' [tail (.slice a_1 n_2 c_3) 33 3] ∧ SliceAt tGState K' a_1 n_2 c_3 r.1 ∧ rng64 r.2 := by
  rw [M.spec_l4Add] at hm
  refine calls_in Try.func78 rfl Try.ntmps78 rfl ?_
  refine wc_seq ?_
  refine wc_region ?_
  refine wl_box wn rfl rfl hS ?_
  intro g10 w11 hS12
  have hS13 : SH _ _ _ _ _ [obj g10 [.bool p1_s.Final, .int .i64 p1_s.Many, .slice a6 n7 c8] 33, _] := hS12
  refine wl_val wn rfl (rv_assign (v := .slice none 0 0) rfl) ?_
  refine wl_val wn rfl (rv_assign (v := .int .i64 0) rfl) ?_
  refine wl_nil ?_
  refine qe_seq ?_
  refine wc_seq ?_
  refine wc_seq ?_
  refine wc_region ?_
  refine wl_val wn rfl (rv_assign (v := .int .i64 0) rfl) ?_
  refine wl_nil ?_
  refine qe_seq ?_
  obtain ⟨o14, h15, h16⟩ := Option.bind_eq_some_iff.1 hm
  refine wc_cutg (fun E' w' => ∃ (s17 : Unit) (K18 : KMap), o14 = .inl s17 ∧ E' = [(0, .slice a1 n2 c3), (3, .pointer (some ⟨g10, 0, none⟩))] ∧ SH w K (List.filterMap Item.g [tail (.slice a1 n2 c3) 33 3]) w' K18 [obj g10 [.bool p1_s.Final, .int .i64 p1_s.Many, .slice a6 n7 c8] 33, tail (.slice a1 n2 c3) 33 3] ∧ KLe K K18) ?_ ?_
  · refine wc_block ?_
    obtain ⟨r23, h24, h25⟩ := Option.bind_eq_some_iff.1 h15
    refine wc_while' (fun (s22 : Int) E' w' => ∃ (K26 : KMap), E' = [(0, .slice a1 n2 c3), (3, .pointer (some ⟨g10, 0, none⟩)), (6, .int .i64 s22)] ∧ SH w K (List.filterMap Item.g [tail (.slice a1 n2 c3) 33 3]) w' K26 [obj g10 [.bool p1_s.Final, .int .i64 p1_s.Many, .slice a6 n7 c8] 33, tail (.slice a1 n2 c3) 33 3] ∧ KLe K K26 ∧ rng64 s22) h24 ⟨K, rfl, hS13, (KLe.refl _), (by decide : rng64 0)⟩ ⟨rfl, rfl, rfl, trivial⟩ ?_
    rintro s22 _ w28 r31 h32 hx33 ⟨K26, rfl, hS29, hl27, hr30⟩
    refine wc_seq ?_
    refine wc_seq ?_
    refine wc_region ?_
    refine wl_val wn rfl (rv_move rfl) ?_
    refine wl_val wn rfl (rv_move rfl) ?_
    refine wl_val wn rfl (rv_len (t := tGState) Try.underlying28 rfl (SliceAt.mono hl27 hs4)) ?_
    refine wl_val wn rfl (rv_lss rfl rfl) ?_
    refine wl_nil ?_
    refine qe_seq ?_
    refine wc_cond rfl (fun hb34 => ?_) (fun hb34 => ?_)
    · have h35 := cond_t hb34 h32
      refine wc_skip ?_
      refine qe_seq ?_
      refine wc_seq ?_
      refine wc_block ?_
      refine wc_seq ?_
      refine wc_quiet mixed (by kernel_rfl) hS29 ?_
      refine wq_val wn rfl (fun _ _ => (rv_move rfl)) ?_
      refine wq_val wn rfl (fun _ _ => (rv_move rfl)) ?_
      obtain ⟨x36, hx37, h38⟩ := Option.bind_eq_some_iff.1 h35
      refine wq_indexAddr (t := tGState) wn rfl Try.underlying28 tf33 rfl rfl (SliceAt.mono hl27 hs4) hx37 ?_
      intro b39 o40 u41 hu42 ha43
      obtain ⟨a45, n46, c47, rfl, hr44, hs48⟩ := hu42
      have ha49 : AtK _ b39 o40 [.bool x36.Final, .int .i64 x36.Many, .slice a45 n46 c47] := ha43
      refine wq_val wn rfl (rq_loadS (cs := [.bool x36.Final, .int .i64 x36.Many, .slice a45 n46 c47]) tf33 rfl ha49 rfl) ?_
      refine wq_val wn rfl (rq_loadmS (ds := [.bool p1_s.Final, .int .i64 p1_s.Many, .slice a6 n7 c8]) tf33 rfl (.head _) rfl rfl) ?_
      obtain ⟨r50, hx51, h52⟩ := Option.bind_eq_some_iff.1 h38
      refine wq_call (v := .bool r50) wn rfl (fun _ => rt_call (vs := [.agg #[.bool x36.Final, .int .i64 x36.Many, .slice a45 n46 c47], .agg #[.bool p1_s.Final, .int .i64 p1_s.Many, .slice a6 n7 c8]]) co86 rfl) (fun w55 ⟨K53, hS54, hl56⟩ => ((ok_spec_l4Same F) hS54.enter0 hr44 (SliceAt.mono hl56 hs48) hr5 (SliceAt.mono (hl27.trans hl56) hs9) hx51).mono fun e w' ⟨K', he, hS'⟩ => ⟨he, K', hS54.call0 hS', hl56.trans hS'.le⟩) ?_
      refine wq_nil ?_
      rintro w58 ⟨K57, hS59, hl60⟩
      refine qe_seq ?_
      refine wc_cond rfl (fun hb61 => ?_) (fun hb61 => ?_)
      · have h62 := cond_t hb61 h52
        refine wc_seq ?_
        refine wc_region ?_
        refine wl_val wn rfl (rv_move rfl) ?_
        refine wl_val wn rfl (rv_move rfl) ?_
        refine wl_val wn rfl (rv_assign rfl) ?_
        refine wl_val wn rfl (rv_assign rfl) ?_
        refine wl_nil ?_
        refine qe_seq ?_
        refine wc_ret ?_
        refine qe_block_ret ?_
        refine qe_then_ret ?_
        refine qe_then_ret ?_
        obtain rfl := Option.some.inj h62
        have e63 := hx33 _ rfl
        subst e63
        refine qe_block_ret ?_
        refine qe_then_ret ?_
        obtain rfl := Option.some.inj h25
        refine qe_then_ret ?_
        obtain rfl := Option.some.inj h16
        have hS64 : SH _ _ _ _ _ [_] := SH.sublist hS59 (.cons _ (.cons_cons _ .slnil))
        exact qe_ret (vs := [_, _]) Try.results78 ⟨rfl, rfl, trivial⟩ ⟨a1, n2, c3, K57, rfl, hS64, (SliceAt.mono (hl27.trans hl60) hs4), hr30⟩
      · have h62 := cond_f hb61 h52
        refine wc_skip ?_
        refine qe_block ?_
        refine qe_seq ?_
        refine wc_region ?_
        refine wl_val wn rfl (rv_move rfl) ?_
        refine wl_val wn rfl (rv_add rfl rfl) ?_
        refine wl_val wn rfl (rv_assign rfl) ?_
        refine wl_nil ?_
        obtain rfl := Option.some.inj h62
        exact qe_mid' ⟨_, rfl, K57, rfl, hS59, (hl27.trans hl60), (w64_rng _)⟩ ⟨rfl, rfl, rfl, trivial⟩
    · have h35 := cond_f hb34 h32
      refine wc_exit ?_
      refine qe_then_exit ?_
      refine qe_then_exit ?_
      obtain rfl := Option.some.inj h35
      have e65 := hx33 _ rfl
      subst e65
      refine qe_block_eq ?_
      obtain rfl := Option.some.inj h25
      exact qe_mid' ⟨_, K26, rfl, rfl, hS29, hl27⟩ ⟨rfl, rfl, trivial⟩
  · rintro _ w20 ⟨s17, K18, rfl, rfl, hS21, hl19⟩
    refine qe_seq ?_
    refine wc_seq ?_
    refine wc_region ?_
    refine wl_val wn rfl (rv_move rfl) ?_
    refine wl_val wn rfl (rv_loadmS (ds := [.bool p1_s.Final, .int .i64 p1_s.Many, .slice a6 n7 c8]) tf33 rfl (.head _) hS21 rfl rfl) ?_
    refine wl_buildSlice (t := tGState) (n := 1) (pv := [(0, .agg #[.bool p1_s.Final, .int .i64 p1_s.Many, .slice a6 n7 c8])]) (cs := [.bool p1_s.Final, .int .i64 p1_s.Many, .slice a6 n7 c8]) (xs := [p1_s]) wn rfl Try.underlying28 tf33 rfl rfl rfl (by kernel_rfl) rfl rfl (lit_cons (u := .agg #[.bool p1_s.Final, .int .i64 p1_s.Many, .slice a6 n7 c8]) (z := p1_s) ⟨a6, n7, c8, rfl, hr5, (SliceAt.mono hl19 hs9)⟩ lit_nil) hS21 ?_
    intro a68 w69 K70 hl71 hs72 hS73
    have hS74 : SH _ _ _ _ _ [_, _, _] := SH.front (p := [_, _]) hS73
    obtain ⟨x75, hx76, h77⟩ := Option.bind_eq_some_iff.1 h16
    refine wl_append (t := tGState) wn rfl Try.underlying28 tf33 rfl rfl rfl rfl rfl (SliceAt.mono (hl19.trans hl71) hs4) hs72 hx76 hS74 ?_
    intro a78 n79 c80 w81 K82 hl83 hs84 hS85
    refine wl_val wn rfl (rv_move rfl) ?_
    refine wl_val wn rfl (rv_len (t := tGState) Try.underlying28 rfl (SliceAt.mono ((hl19.trans hl71).trans hl83) hs4)) ?_
    refine wl_val wn rfl (rv_assign rfl) ?_
    refine wl_val wn rfl (rv_assign rfl) ?_
    refine wl_nil ?_
    refine qe_seq ?_
    refine wc_ret ?_
    obtain rfl := Option.some.inj h77
    have hS86 : SH _ _ _ _ _ [_] := SH.sublist hS85 (.cons_cons _ (.cons _ (.cons _ .slnil)))
    exact qe_ret (vs := [_, _]) Try.results78 ⟨rfl, rfl, trivial⟩ ⟨a78, n79, c80, K82, rfl, hS86, hs84, (rng_nat (SliceAt.max (SliceAt.mono ((hl19.trans hl71).trans hl83) hs4)))⟩

set_option maxHeartbeats 2000000 in
theorem ok_spec_l4Build (F : Nat) : ∀ {w : World} {K : KMap} {a1 : Option Addr} {n2 c3 : Nat} {a5 : Option Addr} {n6 c7 : Nat} {p0_list : List GState} {p1_words : List Str} {p2_at : Int} {r : (List GState) × Int} (hS : SH w K (List.filterMap Item.g [tail (.slice a1 n2 c3) 33 3]) w K [tail (.slice a1 n2 c3) 33 3]) (hs4 : SliceAt tGState K a1 n2 c3 p0_list) (hs8 : SliceAt tStr K a5 n6 c7 p1_words) (hr9 : rng64 p2_at) (hm : M.spec_l4Build F p0_list p1_words p2_at = some r),
    Calls Try.prog 55 #[.slice a1 n2 c3, .slice a5 n6 c7, .int .i64 p2_at] w fun e w' => ∃ (a_1 : Option Addr) (n_2 c_3 : Nat) (K' : KMap), e = .returned (.tuple #[.slice a_1 n_2 c_3, .int .i64 r.2]) ∧ SH w K (List.filterMap Item.g [tail (.slice a1 n2 c3) 33 3]) w' K' [tail (.slice a_1 n_2 c_3) 33 3] ∧ SliceAt tGState K' a_1 n_2 c_3 r.1 ∧ rng64 r.2 := by
  induction F with
  | zero => intros; rename_i hm; rw [M.spec_l4Build] at hm; cases hm
  | succ F ih =>
    intro w K a1 n2 c3 a5 n6 c7 p0_list p1_words p2_at r hS hs4 hs8 hr9 hm
    rw [M.spec_l4Build] at hm
    refine calls_in Try.func55 rfl Try.ntmps55 rfl ?_
    refine wc_seq ?_
    refine wc_region ?_
    refine wl_val wn rfl (rv_assign (v := .slice none 0 0) rfl) ?_
    refine wl_val wn rfl (rv_assign (v := .int .i64 0) rfl) ?_
    refine wl_nil ?_
    refine qe_seq ?_
    refine wc_seq ?_
    refine wc_region ?_
    refine wl_val wn rfl (rv_move rfl) ?_
    refine wl_val wn rfl (rv_len (t := tStr) Try.underlying26 rfl hs8) ?_
    refine wl_val wn rfl (rv_build (cs := #[.bool false, .int .i64 (p1_words.length : Int), .slice none 0 0]) sp33 tf33 rfl (by kernel_rfl)) ?_
    refine wl_alloc wn rfl tf33 hS ?_
    intro g10 w11 hS12
    have hS13 : SH _ _ _ _ _ [obj g10 [.bool false, .int .i64 0, .slice none 0 0] 33, _] := hS12
    refine wl_store (cs' := [.bool false, .int .i64 (p1_words.length : Int), .slice none 0 0]) (v := .agg #[.bool false, .int .i64 (p1_words.length : Int), .slice none 0 0]) wn tf33 rfl rfl rfl (by simp [Value.cells, Value.oneCell']) hS13 rfl rfl ?_
    intro w14 hS15
    refine wl_nil ?_
    refine qe_seq ?_
    refine wc_seq ?_
    refine wc_seq ?_
    obtain ⟨o16, h17, h18⟩ := Option.bind_eq_some_iff.1 hm
    refine wc_cutg (fun E' w' => ∃ (K19 : KMap), E' = [(0, .slice a1 n2 c3), (1, .slice a5 n6 c7), (2, .int .i64 p2_at), (8, .pointer (some ⟨g10, 0, none⟩)), (26, .bool o16)] ∧ SH w K (List.filterMap Item.g [tail (.slice a1 n2 c3) 33 3]) w' K19 [obj g10 [.bool false, .int .i64 (p1_words.length : Int), .slice none 0 0] 33, tail (.slice none 0 0) 35 2, tail (.slice a1 n2 c3) 33 3] ∧ KLe K K19) ?_ ?_
    · refine wc_region ?_
      refine wl_val wn rfl (rv_move rfl) ?_
      refine wl_val wn rfl (rv_len (t := tStr) Try.underlying26 rfl hs8) ?_
      refine wl_val wn rfl (rv_gtr rfl rfl) ?_
      refine wl_val wn rfl (rv_move rfl) ?_
      rcases bool_tf (decide ((0 : Int) < (p1_words.length : Int))) with hb23 | hb23
      · have h24 := cond_t hb23 h17
        refine wl_val (wg rfl rfl hb23) rfl (rv_move rfl) ?_
        obtain ⟨x25, hx26, h27⟩ := Option.bind_eq_some_iff.1 h24
        refine wl_indexAddr (t := tStr) (wg rfl rfl hb23) rfl Try.underlying26 tf9 rfl rfl hs8 hx26 ?_
        intro b28 o29 u30 hu31 ha32
        obtain ⟨rfl, hl33⟩ := hu31
        have ha34 : AtK _ b28 o29 [sv x25] := ha32
        refine wl_val (wg rfl rfl hb23) rfl (rv_load1 tf9 rfl hS15 (ha34 0 _ rfl)) ?_
        refine wl_val (wg rfl rfl hb23) rfl (rv_slen Try.underlying9 rfl) ?_
        refine wl_val (wg rfl rfl hb23) rfl (rv_move rfl) ?_
        refine wl_val (wg rfl rfl hb23) rfl (rv_eql rfl rfl) ?_
        refine wl_val wn rfl (rv_pick_t rfl hb23 rfl) ?_
        refine wl_nil ?_
        obtain rfl := Option.some.inj h27
        have hS35 := SH.nil hS15 35 2
        have hS36 : SH _ _ _ _ _ [_, _, _] := SH.front (p := [_, _]) hS35
        have hS37 : SH _ _ _ _ _ [_, _, _] := SH.front (p := [_]) hS36
        have hS38 : SH _ _ _ _ _ [_, _, _] := SH.front (p := [_, _]) hS37
        exact qe_mid' ⟨K, rfl, hS38, (KLe.refl _)⟩ ⟨rfl, rfl, rfl, rfl, rfl, trivial⟩
      · have h24 := cond_f hb23 h17
        refine wl_un (ug rfl rfl hb23) rfl ?_
        refine wl_un (ug rfl rfl hb23) rfl ?_
        refine wl_un (ug rfl rfl hb23) rfl ?_
        refine wl_un (ug rfl rfl hb23) rfl ?_
        refine wl_un (ug rfl rfl hb23) rfl ?_
        refine wl_un (ug rfl rfl hb23) rfl ?_
        refine wl_val wn rfl (rv_pick_f (v := .bool false) rfl hb23 rfl) ?_
        refine wl_nil ?_
        obtain rfl := Option.some.inj h24
        have hS39 := SH.nil hS15 35 2
        have hS40 : SH _ _ _ _ _ [_, _, _] := SH.front (p := [_, _]) hS39
        have hS41 : SH _ _ _ _ _ [_, _, _] := SH.front (p := [_]) hS40
        have hS42 : SH _ _ _ _ _ [_, _, _] := SH.front (p := [_, _]) hS41
        exact qe_mid' ⟨K, rfl, hS42, (KLe.refl _)⟩ ⟨rfl, rfl, rfl, rfl, rfl, trivial⟩
    · rintro _ w21 ⟨K19, rfl, hS22, hl20⟩
      refine qe_seq ?_
      obtain ⟨o43, h44, h45⟩ := Option.bind_eq_some_iff.1 h18
      refine wc_cutg (fun E' w' => ∃ (a50 : Option Addr) (n51 c52 : Nat) (a55 : Option Addr) (n56 c57 : Nat) (K46 : KMap), E' = [(0, .slice a1 n2 c3), (1, .slice a50 n51 c52), (2, .int .i64 p2_at), (8, .pointer (some ⟨g10, 0, none⟩))] ∧ SH w K (List.filterMap Item.g [tail (.slice a1 n2 c3) 33 3]) w' K46 [obj g10 [.bool o43.2.Final, .int .i64 o43.2.Many, .slice a55 n56 c57] 33, tail (.slice a55 n56 c57) 35 2, tail (.slice a1 n2 c3) 33 3] ∧ KLe K19 K46 ∧ SliceAt tStr K46 a50 n51 c52 o43.1 ∧ rng64 o43.2.Many ∧ SliceAt tGArc K46 a55 n56 c57 o43.2.Arcs) ?_ ?_
      · refine wc_cond rfl (fun hb59 => ?_) (fun hb59 => ?_)
        · have h60 := cond_t hb59 h44
          refine wc_seq ?_
          refine wc_region ?_
          refine wl_val wn rfl (rv_fieldAddr ff33_0 rfl) ?_
          refine wl_store (cs' := [.bool true, .int .i64 (p1_words.length : Int), .slice none 0 0]) (v := .bool true) wn tf4 rfl rfl rfl (by simp [Value.cells, Value.oneCell']) hS22 rfl rfl ?_
          intro w61 hS62
          refine wl_nil ?_
          refine qe_seq ?_
          refine wc_region ?_
          refine wl_val wn rfl (rv_move rfl) ?_
          obtain ⟨x63, hx64, h65⟩ := Option.bind_eq_some_iff.1 h60
          refine wl_sl_l (t := tStr) wn rfl Try.underlying26 tf9 rfl rfl (SliceAt.mono hl20 hs8) hx64 ?_
          intro a66 n67 c68 hs69
          refine wl_val wn rfl (rv_assign rfl) ?_
          refine wl_nil ?_
          obtain rfl := Option.some.inj h65
          exact qe_mid' ⟨a66, n67, c68, none, 0, 0, K19, rfl, hS62, (KLe.refl _), hs69, (rng_nat (SliceAt.max hs8)), (SliceAt.nil _ _)⟩ ⟨rfl, rfl, rfl, rfl, trivial⟩
        · have h60 := cond_f hb59 h44
          refine wc_skip ?_
          obtain rfl := Option.some.inj h60
          exact qe_mid' ⟨a5, n6, c7, none, 0, 0, K19, rfl, hS22, (KLe.refl _), (SliceAt.mono hl20 hs8), (rng_nat (SliceAt.max hs8)), (SliceAt.nil _ _)⟩ ⟨rfl, rfl, rfl, rfl, trivial⟩
      · rintro _ w48 ⟨a50, n51, c52, a55, n56, c57, K46, rfl, hS49, hl47, hs53, hr54, hs58⟩
        refine qe_seq ?_
        refine wc_seq ?_
        obtain ⟨o70, h71, h72⟩ := Option.bind_eq_some_iff.1 h45
        refine wc_cutg (fun E' w' => ∃ (a77 : Option Addr) (n78 c79 : Nat) (a82 : Option Addr) (n83 c84 : Nat) (K73 : KMap), E' = [(0, .slice a77 n78 c79), (8, .pointer (some ⟨g10, 0, none⟩))] ∧ SH w K (List.filterMap Item.g [tail (.slice a1 n2 c3) 33 3]) w' K73 [obj g10 [.bool o70.2.Final, .int .i64 o70.2.Many, .slice a82 n83 c84] 33, tail (.slice a82 n83 c84) 35 2, tail (.slice a77 n78 c79) 33 3] ∧ KLe K46 K73 ∧ SliceAt tGState K73 a77 n78 c79 o70.1 ∧ rng64 o70.2.Many ∧ SliceAt tGArc K73 a82 n83 c84 o70.2.Arcs) ?_ ?_
        · refine wc_block ?_
          obtain ⟨r87, h88, h89⟩ := Option.bind_eq_some_iff.1 h71
          refine wc_while' (fun (s86 : (List GState) × (List Str) × GState) E' w' => ∃ (a94 : Option Addr) (n95 c96 : Nat) (a98 : Option Addr) (n99 c100 : Nat) (a103 : Option Addr) (n104 c105 : Nat) (K90 : KMap), E' = [(0, .slice a94 n95 c96), (1, .slice a98 n99 c100), (2, .int .i64 p2_at), (8, .pointer (some ⟨g10, 0, none⟩))] ∧ SH w K (List.filterMap Item.g [tail (.slice a1 n2 c3) 33 3]) w' K90 [obj g10 [.bool s86.2.2.Final, .int .i64 s86.2.2.Many, .slice a103 n104 c105] 33, tail (.slice a103 n104 c105) 35 2, tail (.slice a94 n95 c96) 33 3] ∧ KLe K46 K90 ∧ SliceAt tGState K90 a94 n95 c96 s86.1 ∧ SliceAt tStr K90 a98 n99 c100 s86.2.1 ∧ rng64 s86.2.2.Many ∧ SliceAt tGArc K90 a103 n104 c105 s86.2.2.Arcs) h88 ⟨a1, n2, c3, a50, n51, c52, a55, n56, c57, K46, rfl, hS49, (KLe.refl _), (SliceAt.mono (hl20.trans hl47) hs4), hs53, hr54, hs58⟩ ⟨rfl, rfl, rfl, rfl, trivial⟩ ?_
          rintro s86 _ w92 r107 h108 hx109 ⟨a94, n95, c96, a98, n99, c100, a103, n104, c105, K90, rfl, hS93, hl91, hs97, hs101, hr102, hs106⟩
          refine wc_seq ?_
          refine wc_seq ?_
          refine wc_region ?_
          refine wl_val wn rfl (rv_move rfl) ?_
          refine wl_val wn rfl (rv_len (t := tStr) Try.underlying26 rfl hs101) ?_
          refine wl_val wn rfl (rv_gtr rfl rfl) ?_
          refine wl_nil ?_
          refine qe_seq ?_
          refine wc_cond rfl (fun hb110 => ?_) (fun hb110 => ?_)
          · have h111 := cond_t hb110 h108
            refine wc_skip ?_
            refine qe_seq ?_
            refine wc_block ?_
            refine wc_seq ?_
            refine wc_region ?_
            refine wl_val wn rfl (rv_move rfl) ?_
            obtain ⟨x112, hx113, h114⟩ := Option.bind_eq_some_iff.1 h111
            refine wl_indexAddr (t := tStr) wn rfl Try.underlying26 tf9 rfl rfl hs101 hx113 ?_
            intro b115 o116 u117 hu118 ha119
            obtain ⟨rfl, hl120⟩ := hu118
            have ha121 : AtK _ b115 o116 [sv x112] := ha119
            refine wl_val wn rfl (rv_load1 tf9 rfl hS93 (ha121 0 _ rfl)) ?_
            refine wl_val wn rfl (rv_move rfl) ?_
            obtain ⟨x122, hx123, h124⟩ := Option.bind_eq_some_iff.1 h114
            refine wl_val wn rfl (rv_sidx Try.underlying9 rfl rfl hx123) ?_
            refine wl_val wn rfl (rv_assign rfl) ?_
            refine wl_nil ?_
            refine qe_seq ?_
            refine wc_seq ?_
            refine wc_region ?_
            refine wl_val wn rfl (rv_assign (v := .int .i64 0) rfl) ?_
            refine wl_nil ?_
            refine qe_seq ?_
            refine wc_seq ?_
            obtain ⟨o125, h126, h127⟩ := Option.bind_eq_some_iff.1 h124
            refine wc_cutg (fun E' w' => ∃ (K128 : KMap), E' = [(0, .slice a94 n95 c96), (1, .slice a98 n99 c100), (2, .int .i64 p2_at), (8, .pointer (some ⟨g10, 0, none⟩)), (9, iv8 x122), (10, .int .i64 o125)] ∧ SH w K (List.filterMap Item.g [tail (.slice a1 n2 c3) 33 3]) w' K128 [obj g10 [.bool s86.2.2.Final, .int .i64 s86.2.2.Many, .slice a103 n104 c105] 33, tail (.slice a103 n104 c105) 35 2, tail (.slice a94 n95 c96) 33 3] ∧ KLe K90 K128 ∧ rng64 o125) ?_ ?_
            · refine wc_block ?_
              obtain ⟨r134, h135, h136⟩ := Option.bind_eq_some_iff.1 h126
              refine wc_while' (fun (s133 : Int) E' w' => ∃ (K137 : KMap), E' = [(0, .slice a94 n95 c96), (1, .slice a98 n99 c100), (2, .int .i64 p2_at), (8, .pointer (some ⟨g10, 0, none⟩)), (9, iv8 x122), (10, .int .i64 s133)] ∧ SH w K (List.filterMap Item.g [tail (.slice a1 n2 c3) 33 3]) w' K137 [obj g10 [.bool s86.2.2.Final, .int .i64 s86.2.2.Many, .slice a103 n104 c105] 33, tail (.slice a103 n104 c105) 35 2, tail (.slice a94 n95 c96) 33 3] ∧ KLe K90 K137 ∧ rng64 s133) h135 ⟨K90, rfl, hS93, (KLe.refl _), (by decide : rng64 0)⟩ ⟨rfl, rfl, rfl, rfl, rfl, rfl, trivial⟩ ?_
              rintro s133 _ w139 r142 h143 hx144 ⟨K137, rfl, hS140, hl138, hr141⟩
              refine wc_seq ?_
              refine wc_seq ?_
              obtain ⟨o145, h146, h147⟩ := Option.bind_eq_some_iff.1 h143
              refine wc_cutg (fun E' w' => ∃ (K148 : KMap), E' = [(0, .slice a94 n95 c96), (1, .slice a98 n99 c100), (2, .int .i64 p2_at), (8, .pointer (some ⟨g10, 0, none⟩)), (9, iv8 x122), (10, .int .i64 s133), (51, .bool o145)] ∧ SH w K (List.filterMap Item.g [tail (.slice a1 n2 c3) 33 3]) w' K148 [obj g10 [.bool s86.2.2.Final, .int .i64 s86.2.2.Many, .slice a103 n104 c105] 33, tail (.slice a103 n104 c105) 35 2, tail (.slice a94 n95 c96) 33 3] ∧ KLe K137 K148) ?_ ?_
              · refine wc_region ?_
                refine wl_val wn rfl (rv_move rfl) ?_
                refine wl_val wn rfl (rv_move rfl) ?_
                refine wl_val wn rfl (rv_len (t := tStr) Try.underlying26 rfl (SliceAt.mono hl138 hs101)) ?_
                refine wl_val wn rfl (rv_lss rfl rfl) ?_
                refine wl_val wn rfl (rv_move rfl) ?_
                rcases bool_tf (decide (s133 < (s86.2.1.length : Int))) with hb152 | hb152
                · have h153 := cond_t hb152 h146
                  refine wl_val (wg rfl rfl hb152) rfl (rv_move rfl) ?_
                  refine wl_val (wg rfl rfl hb152) rfl (rv_move rfl) ?_
                  obtain ⟨x154, hx155, h156⟩ := Option.bind_eq_some_iff.1 h153
                  refine wl_indexAddr (t := tStr) (wg rfl rfl hb152) rfl Try.underlying26 tf9 rfl rfl (SliceAt.mono hl138 hs101) hx155 ?_
                  intro b157 o158 u159 hu160 ha161
                  obtain ⟨rfl, hl162⟩ := hu160
                  have ha163 : AtK _ b157 o158 [sv x154] := ha161
                  refine wl_val (wg rfl rfl hb152) rfl (rv_load1 tf9 rfl hS140 (ha163 0 _ rfl)) ?_
                  refine wl_val (wg rfl rfl hb152) rfl (rv_move rfl) ?_
                  obtain ⟨x164, hx165, h166⟩ := Option.bind_eq_some_iff.1 h156
                  refine wl_val (wg rfl rfl hb152) rfl (rv_sidx Try.underlying9 rfl rfl hx165) ?_
                  refine wl_val (wg rfl rfl hb152) rfl (rv_move rfl) ?_
                  refine wl_val (wg rfl rfl hb152) rfl (rv_beq rfl rfl) ?_
                  refine wl_val wn rfl (rv_pick_t rfl hb152 rfl) ?_
                  refine wl_nil ?_
                  obtain rfl := Option.some.inj h166
                  exact qe_mid' ⟨K137, rfl, hS140, (KLe.refl _)⟩ ⟨rfl, rfl, rfl, rfl, rfl, rfl, rfl, trivial⟩
                · have h153 := cond_f hb152 h146
                  refine wl_un (ug rfl rfl hb152) rfl ?_
                  refine wl_un (ug rfl rfl hb152) rfl ?_
                  refine wl_un (ug rfl rfl hb152) rfl ?_
                  refine wl_un (ug rfl rfl hb152) rfl ?_
                  refine wl_un (ug rfl rfl hb152) rfl ?_
                  refine wl_un (ug rfl rfl hb152) rfl ?_
                  refine wl_un (ug rfl rfl hb152) rfl ?_
                  refine wl_un (ug rfl rfl hb152) rfl ?_
                  refine wl_val wn rfl (rv_pick_f (v := .bool false) rfl hb152 rfl) ?_
                  refine wl_nil ?_
                  obtain rfl := Option.some.inj h153
                  exact qe_mid' ⟨K137, rfl, hS140, (KLe.refl _)⟩ ⟨rfl, rfl, rfl, rfl, rfl, rfl, rfl, trivial⟩
              · rintro _ w150 ⟨K148, rfl, hS151, hl149⟩
                refine qe_seq ?_
                refine wc_cond rfl (fun hb167 => ?_) (fun hb167 => ?_)
                · have h168 := cond_t hb167 h147
                  refine wc_skip ?_
                  refine qe_seq ?_
                  refine wc_block ?_
                  refine wc_region ?_
                  refine wl_val wn rfl (rv_move rfl) ?_
                  refine wl_val wn rfl (rv_add rfl rfl) ?_
                  refine wl_val wn rfl (rv_assign rfl) ?_
                  refine wl_nil ?_
                  refine qe_block ?_
                  obtain rfl := Option.some.inj h168
                  exact qe_mid' ⟨_, rfl, K148, rfl, hS151, (hl138.trans hl149), (w64_rng _)⟩ ⟨rfl, rfl, rfl, rfl, rfl, rfl, trivial⟩
                · have h168 := cond_f hb167 h147
                  refine wc_exit ?_
                  refine qe_then_exit ?_
                  refine qe_then_exit ?_
                  obtain rfl := Option.some.inj h168
                  have e169 := hx144 _ rfl
                  subst e169
                  refine qe_block_eq ?_
                  obtain rfl := Option.some.inj h136
                  exact qe_mid' ⟨K148, rfl, hS151, (hl138.trans hl149), hr141⟩ ⟨rfl, rfl, rfl, rfl, rfl, rfl, trivial⟩
            · rintro _ w130 ⟨K128, rfl, hS131, hl129, hr132⟩
              refine qe_seq ?_
              refine wc_seq ?_
              refine wc_region ?_
              refine wl_val wn rfl (rv_move rfl) ?_
              refine wl_val wn rfl (rv_move rfl) ?_
              refine wl_val wn rfl (rv_move rfl) ?_
              obtain ⟨x170, hx171, h172⟩ := Option.bind_eq_some_iff.1 h127
              refine wl_sl_h (t := tStr) wn rfl Try.underlying26 tf9 rfl rfl (SliceAt.mono hl129 hs101) hx171 ?_
              intro a173 n174 c175 hs176
              refine wl_val wn rfl (rv_move rfl) ?_
              refine wl_val wn rfl (rv_add rfl rfl) ?_
              obtain ⟨r177, hx178, h179⟩ := Option.bind_eq_some_iff.1 h172
              have hS180 : SH _ _ _ _ _ [_, _, _] := SH.front (p := [_, _]) hS131
              refine wl_call wn rfl (rt_call (vs := [.slice a94 n95 c96, .slice a173 n174 c175, .int .i64 (w64 (p2_at + (1 : Int)))]) co55 rfl) (ih (SH.enter (Lin := [_]) hS180) (SliceAt.mono hl129 hs97) hs176 (w64_rng _) hx178) ?_
              rintro e189 w182 ⟨a184, n185, c186, K181, rfl, hS183, hs187, hr188⟩
              refine ⟨_, rfl, ?_⟩
              have hS190 : SH _ _ _ _ _ [_, _, _] := SH.call (Lin := [_]) hS180 hS183
              refine wl_val wn rfl (rv_move rfl) ?_
              refine wl_val wn rfl (rv_extract rfl rfl) ?_
              refine wl_val wn rfl (rv_extract rfl rfl) ?_
              refine wl_val wn rfl (rv_assign rfl) ?_
              refine wl_val wn rfl (rv_assign rfl) ?_
              refine wl_nil ?_
              refine qe_seq ?_
              refine wc_seq ?_
              refine wc_region ?_
              refine wl_val wn rfl (rv_move rfl) ?_
              refine wl_val wn rfl (rv_assign rfl) ?_
              refine wl_nil ?_
              refine qe_seq ?_
              refine wc_seq ?_
              refine wc_region ?_
              refine wl_val wn rfl (rv_fieldAddr ff33_2 rfl) ?_
              refine wl_val wn rfl (rv_loadm1 tf31 rfl (.tail _ (.head _)) hS190 rfl) ?_
              refine wl_val wn rfl (rv_move rfl) ?_
              refine wl_val wn rfl (rv_move rfl) ?_
              refine wl_val wn rfl (rv_build (cs := #[iv8 x122, .int .i64 r177.2]) sp35 tf35 rfl (by kernel_rfl)) ?_
              refine wl_buildSlice (t := tGArc) (n := 1) (pv := [(0, .agg #[iv8 x122, .int .i64 r177.2])]) (cs := [iv8 x122, .int .i64 r177.2]) (xs := [(GArc.mk x122 r177.2)]) wn rfl Try.underlying31 tf35 rfl rfl rfl (by kernel_rfl) rfl rfl (lit_cons (u := .agg #[iv8 x122, .int .i64 r177.2]) (z := (GArc.mk x122 r177.2)) ⟨rfl, hr188⟩ lit_nil) hS190 ?_
              intro a191 w192 K193 hl194 hs195 hS196
              have hS197 : SH _ _ _ _ _ [_, _, _, _] := SH.front (p := [_, _, _]) hS196
              obtain ⟨x198, hx199, h200⟩ := Option.bind_eq_some_iff.1 h179
              refine wl_append (t := tGArc) wn rfl Try.underlying31 tf35 rfl rfl rfl rfl rfl (SliceAt.mono ((hl129.trans hS183.le).trans hl194) hs106) hs195 hx199 hS197 ?_
              intro a201 n202 c203 w204 K205 hl206 hs207 hS208
              refine wl_val wn rfl (rv_fieldAddr ff33_2 rfl) ?_
              have hS209 : SH _ _ _ _ _ [_, _, _, _] := SH.front (p := [_, _, _]) hS208
              refine wl_store (cs' := [.bool s86.2.2.Final, .int .i64 s86.2.2.Many, .slice a201 n202 c203]) (v := .slice a201 n202 c203) wn tf31 rfl rfl rfl (by simp [Value.cells, Value.oneCell']) hS209 rfl rfl ?_
              intro w210 hS211
              refine wl_nil ?_
              refine qe_seq ?_
              refine wc_region ?_
              refine wl_val wn rfl (rv_move rfl) ?_
              refine wl_val wn rfl (rv_move rfl) ?_
              obtain ⟨x212, hx213, h214⟩ := Option.bind_eq_some_iff.1 h200
              refine wl_sl_l (t := tStr) wn rfl Try.underlying26 tf9 rfl rfl (SliceAt.mono (((hl129.trans hS183.le).trans hl194).trans hl206) hs101) hx213 ?_
              intro a215 n216 c217 hs218
              refine wl_val wn rfl (rv_assign rfl) ?_
              refine wl_nil ?_
              refine qe_block ?_
              obtain rfl := Option.some.inj h214
              have hS219 : SH _ _ _ _ _ [_, _, _] := SH.sublist hS211 (.cons_cons _ (.cons_cons _ (.cons _ (.cons_cons _ .slnil))))
              exact qe_mid' ⟨_, rfl, a184, n185, c186, a215, n216, c217, a201, n202, c203, K205, rfl, hS219, ((((hl91.trans hl129).trans hS183.le).trans hl194).trans hl206), (SliceAt.mono (hl194.trans hl206) hs187), hs218, hr102, hs207⟩ ⟨rfl, rfl, rfl, rfl, trivial⟩
          · have h111 := cond_f hb110 h108
            refine wc_exit ?_
            refine qe_then_exit ?_
            refine qe_then_exit ?_
            obtain rfl := Option.some.inj h111
            have e220 := hx109 _ rfl
            subst e220
            refine qe_block_eq ?_
            obtain rfl := Option.some.inj h89
            exact qe_mid' ⟨a94, n95, c96, a103, n104, c105, K90, rfl, hS93, hl91, hs97, hr102, hs106⟩ ⟨rfl, rfl, trivial⟩
        · rintro _ w75 ⟨a77, n78, c79, a82, n83, c84, K73, rfl, hS76, hl74, hs80, hr81, hs85⟩
          refine qe_seq ?_
          refine wc_seq ?_
          refine wc_region ?_
          refine wl_val wn rfl (rv_move rfl) ?_
          refine wl_val wn rfl (rv_loadmS (ds := [.bool o70.2.Final, .int .i64 o70.2.Many, .slice a82 n83 c84]) tf33 rfl (.head _) hS76 rfl rfl) ?_
          obtain ⟨r221, hx222, h223⟩ := Option.bind_eq_some_iff.1 h72
          have hS224 : SH _ _ _ _ _ [_, _, _] := SH.front (p := [_, _]) hS76
          refine wl_call wn rfl (rt_call (vs := [.slice a77 n78 c79, .agg #[.bool o70.2.Final, .int .i64 o70.2.Many, .slice a82 n83 c84]]) co78 rfl) ((ok_spec_l4Add F) (SH.enter (Lin := [_]) hS224) hs80 hr81 hs85 hx222) ?_
          rintro e233 w226 ⟨a228, n229, c230, K225, rfl, hS227, hs231, hr232⟩
          refine ⟨_, rfl, ?_⟩
          have hS234 : SH _ _ _ _ _ [_, _, _] := SH.call (Lin := [_]) hS224 hS227
          refine wl_val wn rfl (rv_extract rfl rfl) ?_
          refine wl_val wn rfl (rv_extract rfl rfl) ?_
          refine wl_val wn rfl (rv_assign rfl) ?_
          refine wl_val wn rfl (rv_assign rfl) ?_
          refine wl_nil ?_
          refine qe_seq ?_
          refine wc_ret ?_
          obtain rfl := Option.some.inj h223
          have hS235 : SH _ _ _ _ _ [_] := SH.sublist hS234 (.cons_cons _ (.cons _ (.cons _ .slnil)))
          exact qe_ret (vs := [_, _]) Try.results55 ⟨rfl, rfl, trivial⟩ ⟨a228, n229, c230, K225, rfl, hS235, hs231, hr232⟩

theorem ok_spec_DawgOf (F : Nat) {w : World} {K : KMap} {a1 : Option Addr} {n2 c3 : Nat} {p0_words : List Str} {r : (List GState)} (hS : SH w K [] w K []) (hs4 : SliceAt tStr K a1 n2 c3 p0_words) (hm : M.spec_DawgOf F p0_words = some r) :
    Calls Try.prog 21 #[.slice a1 n2 c3] w fun e w' => ∃ (a_1 : Option Addr) (n_2 c_3 : Nat) (K' : KMap), e = .returned (.slice a_1 n_2 c_3) ∧ SH w K [] w' K' [tail (.slice a_1 n_2 c_3) 33 3] ∧ SliceAt tGState K' a_1 n_2 c_3 r := by
  rw [M.spec_DawgOf] at hm
  refine calls_in Try.func21 rfl Try.ntmps21 rfl ?_
  refine wc_seq ?_
  refine wc_region ?_
  refine wl_val wn rfl (rv_assign (v := .slice none 0 0) rfl) ?_
  refine wl_nil ?_
  refine qe_seq ?_
  refine wc_seq ?_
  refine wc_seq ?_
  refine wc_region ?_
  refine wl_val wn rfl (rv_move rfl) ?_
  obtain ⟨r5, hx6, h7⟩ := Option.bind_eq_some_iff.1 hm
  refine wl_call wn rfl (rt_call (vs := [.slice a1 n2 c3]) co54 rfl) ((ok_spec_l4Sorted F) hS.enter0 hs4 hx6) ?_
  rintro e11 w9 ⟨K8, rfl, hS10⟩
  refine ⟨_, rfl, ?_⟩
  have hS12 : SH _ _ _ _ _ [] := SH.call0 hS hS10
  refine wl_val wn rfl (rv_not rfl) ?_
  refine wl_nil ?_
  refine qe_seq ?_
  refine wc_cond rfl (fun hb13 => ?_) (fun hb13 => ?_)
  · have h14 := cond_t hb13 h7
    refine wc_seq ?_
    refine wc_region ?_
    refine wl_val wn rfl (rv_assign (v := .slice none 0 0) rfl) ?_
    refine wl_nil ?_
    refine qe_seq ?_
    refine wc_ret ?_
    refine qe_then_ret ?_
    obtain rfl := Option.some.inj h14
    have hS15 := SH.nil hS12 33 3
    exact qe_ret (vs := [_]) Try.results21 ⟨rfl, trivial⟩ ⟨none, 0, 0, K8, rfl, hS15, (SliceAt.nil _ _)⟩
  · have h14 := cond_f hb13 h7
    refine wc_skip ?_
    refine qe_seq ?_
    refine wc_seq ?_
    refine wc_region ?_
    refine wl_val wn rfl (rv_move rfl) ?_
    obtain ⟨r16, hx17, h18⟩ := Option.bind_eq_some_iff.1 h14
    have hS19 := SH.nil hS12 33 3
    refine wl_call wn rfl (rt_call (vs := [.slice none 0 0, .slice a1 n2 c3, .int .i64 0]) co55 rfl) ((ok_spec_l4Build F) (SH.enter (Lin := [_]) hS19) (SliceAt.nil _ _) (SliceAt.mono hS10.le hs4) (by decide : rng64 0) hx17) ?_
    rintro e28 w21 ⟨a23, n24, c25, K20, rfl, hS22, hs26, hr27⟩
    refine ⟨_, rfl, ?_⟩
    have hS29 : SH _ _ _ _ _ [_] := SH.call (Lin := [_]) hS19 hS22
    refine wl_val wn rfl (rv_move rfl) ?_
    refine wl_val wn rfl (rv_extract rfl rfl) ?_
    refine wl_val wn rfl (rv_extract rfl rfl) ?_
    refine wl_val wn rfl (rv_assign rfl) ?_
    refine wl_val wn rfl (rv_assign rfl) ?_
    refine wl_nil ?_
    refine qe_seq ?_
    refine wc_seq ?_
    refine wc_region ?_
    refine wl_val wn rfl (rv_move rfl) ?_
    refine wl_val wn rfl (rv_assign rfl) ?_
    refine wl_nil ?_
    refine qe_seq ?_
    refine wc_ret ?_
    obtain rfl := Option.some.inj h18
    exact qe_ret (vs := [_]) Try.results21 ⟨rfl, trivial⟩ ⟨a23, n24, c25, K20, rfl, hS29, hs26⟩
end Go.Proofs.Ytdopcpaapniioaa
