/-
  Walks of the functions. Printed by gen.py.
-/
import Derived.Test.YtdopcpaapniioaaFacts
set_option linter.unusedVariables false
namespace Go.Proofs.Ytdopcpaapniioaa
open Go Go.Fk Go.RowKit

theorem ok_spec_l30Open (F : Nat) {w : World} {K : KMap} {a1 : Option Addr} {n2 c3 : Nat} {p0_code : List UInt8} {r : GL30Rd} (hS : SH w K [] w K []) (hs4 : SliceAt tU8 K a1 n2 c3 p0_code) (hm : M.spec_l30Open F p0_code = some r) :
    Calls Try.prog 48 #[.slice a1 n2 c3] w fun e w' => ∃ (g_1 : Nat) (a_2 : Option Addr) (n_3 c_4 : Nat) (K' : KMap), e = .returned (.pointer (some ⟨g_1, 0, none⟩)) ∧ SH w K [] w' K' [obj g_1 [.slice a_2 n_3 c_4, .int .i64 r.p_] 90] ∧ SliceAt tU8 K' a_2 n_3 c_4 r.b_ ∧ rng64 r.p_ := by
  rw [M.spec_l30Open] at hm
  refine calls_in Try.func48 rfl Try.ntmps48 rfl ?_
  refine wc_seq ?_
  refine wc_region ?_
  refine wl_val wn rfl (rv_assign (v := .pointer none) rfl) ?_
  refine wl_nil ?_
  refine qe_seq ?_
  refine wc_seq ?_
  refine wc_seq ?_
  refine wc_region ?_
  refine wl_val wn rfl (rv_move rfl) ?_
  refine wl_val wn rfl (rv_len (t := tU8) Try.underlying22 rfl hs4) ?_
  refine wl_val wn rfl (rv_gtr rfl rfl) ?_
  refine wl_nil ?_
  refine qe_seq ?_
  refine wc_cond rfl (fun hb5 => ?_) (fun hb5 => ?_)
  · have h6 := cond_t hb5 hm
    refine wc_region ?_
    refine wl_val wn rfl (rv_move rfl) ?_
    obtain ⟨x7, hx8, h9⟩ := Option.bind_eq_some_iff.1 h6
    refine wl_sl_h (t := tU8) wn rfl Try.underlying22 tf5 rfl rfl hs4 hx8 ?_
    intro a10 n11 c12 hs13
    refine wl_val wn rfl (rv_assign rfl) ?_
    refine wl_nil ?_
    refine qe_seq ?_
    refine wc_seq ?_
    refine wc_region ?_
    refine wl_val wn rfl (rv_move rfl) ?_
    refine wl_val wn rfl (rv_build (cs := #[.slice a10 n11 c12, .int .i64 0]) sp90 tf90 rfl (by kernel_rfl)) ?_
    refine wl_box wn rfl rfl hS ?_
    intro g14 w15 hS16
    have hS17 : SH _ _ _ _ _ [obj g14 [.slice a10 n11 c12, .int .i64 0] 90] := hS16
    refine wl_val wn rfl (rv_assign rfl) ?_
    refine wl_nil ?_
    refine qe_seq ?_
    refine wc_ret ?_
    obtain rfl := Option.some.inj h9
    exact qe_ret (vs := [_]) Try.results48 ⟨rfl, trivial⟩ ⟨g14, a10, n11, c12, K, rfl, hS17, hs13, (by decide : rng64 0)⟩
  · have h6 := cond_f hb5 hm
    refine wc_skip ?_
    refine qe_seq ?_
    refine wc_seq ?_
    refine wc_region ?_
    refine wl_val wn rfl (rv_move rfl) ?_
    refine wl_val wn rfl (rv_build (cs := #[.slice a1 n2 c3, .int .i64 0]) sp90 tf90 rfl (by kernel_rfl)) ?_
    refine wl_box wn rfl rfl hS ?_
    intro g18 w19 hS20
    have hS21 : SH _ _ _ _ _ [obj g18 [.slice a1 n2 c3, .int .i64 0] 90] := hS20
    refine wl_val wn rfl (rv_assign rfl) ?_
    refine wl_nil ?_
    refine qe_seq ?_
    refine wc_ret ?_
    obtain rfl := Option.some.inj h6
    exact qe_ret (vs := [_]) Try.results48 ⟨rfl, trivial⟩ ⟨g18, a1, n2, c3, K, rfl, hS21, hs4, (by decide : rng64 0)⟩

theorem ok_spec_l30Rd_pick (F : Nat) {w : World} {K : KMap} {g1 : Nat} {a2 : Option Addr} {n3 c4 : Nat} {p0_r : GL30Rd} {p1_n : Int} {r : Int × GL30Rd} (hS : SH w K (List.filterMap Item.g [obj g1 [.slice a2 n3 c4, .int .i64 p0_r.p_] 90]) w K [obj g1 [.slice a2 n3 c4, .int .i64 p0_r.p_] 90]) (hs5 : SliceAt tU8 K a2 n3 c4 p0_r.b_) (hr6 : rng64 p0_r.p_) (hr7 : rng64 p1_n) (hm : M.spec_l30Rd_pick F p0_r p1_n = some r) :
    Calls Try.prog 61 #[.pointer (some ⟨g1, 0, none⟩), .int .i64 p1_n] w fun e w' => ∃ (a_2 : Option Addr) (n_3 c_4 : Nat) (K' : KMap), e = .returned (.int .i64 r.1) ∧ SH w K (List.filterMap Item.g [obj g1 [.slice a2 n3 c4, .int .i64 p0_r.p_] 90]) w' K' [obj g1 [.slice a_2 n_3 c_4, .int .i64 r.2.p_] 90] ∧ rng64 r.1 ∧ SliceAt tU8 K' a_2 n_3 c_4 r.2.b_ ∧ rng64 r.2.p_ := by
  rw [M.spec_l30Rd_pick] at hm
  refine calls_in Try.func61 rfl Try.ntmps61 rfl ?_
  refine wc_seq ?_
  refine wc_region ?_
  refine wl_val wn rfl (rv_assign (v := .int .i64 0) rfl) ?_
  refine wl_nil ?_
  refine qe_seq ?_
  refine wc_seq ?_
  refine wc_region ?_
  refine wl_val wn rfl (rv_move rfl) ?_
  refine wl_val wn rfl (rv_move rfl) ?_
  refine wl_val wn rfl (rv_nilCheck rfl) ?_
  refine wl_val wn rfl (rv_fieldAddr ff90_1 rfl) ?_
  refine wl_val wn rfl (rv_loadm1 tf3 rfl (.head _) hS rfl) ?_
  refine wl_val wn rfl (rv_add rfl rfl) ?_
  refine wl_val wn rfl (rv_nilCheck rfl) ?_
  refine wl_val wn rfl (rv_fieldAddr ff90_1 rfl) ?_
  refine wl_store (cs' := [.slice a2 n3 c4, .int .i64 (w64 (p0_r.p_ + (1 : Int)))]) (v := .int .i64 (w64 (p0_r.p_ + (1 : Int)))) wn tf3 rfl rfl rfl (by simp [Value.cells, Value.oneCell']) hS rfl rfl ?_
  intro w8 hS9
  refine wl_nil ?_
  refine qe_seq ?_
  refine wc_seq ?_
  refine wc_seq ?_
  obtain ⟨o10, h11, h12⟩ := Option.bind_eq_some_iff.1 hm
  refine wc_cutg (fun E' w' => ∃ (K13 : KMap), E' = [(0, .pointer (some ⟨g1, 0, none⟩)), (1, .int .i64 p1_n), (24, .bool o10)] ∧ SH w K (List.filterMap Item.g [obj g1 [.slice a2 n3 c4, .int .i64 p0_r.p_] 90]) w' K13 [obj g1 [.slice a2 n3 c4, .int .i64 (w64 (p0_r.p_ + (1 : Int)))] 90] ∧ KLe K K13) ?_ ?_
  · refine wc_region ?_
    refine wl_val wn rfl (rv_move rfl) ?_
    refine wl_val wn rfl (rv_lss rfl rfl) ?_
    refine wl_val wn rfl (rv_move rfl) ?_
    rcases bool_tf (decide (p1_n < (1 : Int))) with hb17 | hb17
    · have h18 := cond_t hb17 h11
      refine wl_un (ug rfl rfl hb17) rfl ?_
      refine wl_un (ug rfl rfl hb17) rfl ?_
      refine wl_un (ug rfl rfl hb17) rfl ?_
      refine wl_un (ug rfl rfl hb17) rfl ?_
      refine wl_un (ug rfl rfl hb17) rfl ?_
      refine wl_un (ug rfl rfl hb17) rfl ?_
      refine wl_val wn rfl (rv_pick_t (v := .bool true) rfl hb17 rfl) ?_
      refine wl_nil ?_
      obtain rfl := Option.some.inj h18
      exact qe_mid' ⟨K, rfl, hS9, (KLe.refl _)⟩ ⟨rfl, rfl, rfl, trivial⟩
    · have h18 := cond_f hb17 h11
      refine wl_val (wg rfl rfl hb17) rfl (rv_move rfl) ?_
      refine wl_val (wg rfl rfl hb17) rfl (rv_nilCheck rfl) ?_
      refine wl_val (wg rfl rfl hb17) rfl (rv_fieldAddr ff90_0 rfl) ?_
      refine wl_val (wg rfl rfl hb17) rfl (rv_loadm1 tf22 rfl (.head _) hS9 rfl) ?_
      refine wl_val (wg rfl rfl hb17) rfl (rv_len (t := tU8) Try.underlying22 rfl hs5) ?_
      refine wl_val (wg rfl rfl hb17) rfl (rv_eql rfl rfl) ?_
      refine wl_val wn rfl (rv_pick_f rfl hb17 rfl) ?_
      refine wl_nil ?_
      obtain rfl := Option.some.inj h18
      exact qe_mid' ⟨K, rfl, hS9, (KLe.refl _)⟩ ⟨rfl, rfl, rfl, trivial⟩
  · rintro _ w15 ⟨K13, rfl, hS16, hl14⟩
    refine qe_seq ?_
    refine wc_cond rfl (fun hb19 => ?_) (fun hb19 => ?_)
    · have h20 := cond_t hb19 h12
      refine wc_seq ?_
      refine wc_region ?_
      refine wl_val wn rfl (rv_assign (v := .int .i64 0) rfl) ?_
      refine wl_nil ?_
      refine qe_seq ?_
      refine wc_ret ?_
      refine qe_then_ret ?_
      obtain rfl := Option.some.inj h20
      exact qe_ret (vs := [_]) Try.results61 ⟨rfl, trivial⟩ ⟨a2, n3, c4, K13, rfl, hS16, (by decide : rng64 0), (SliceAt.mono hl14 hs5), (w64_rng _)⟩
    · have h20 := cond_f hb19 h12
      refine wc_skip ?_
      refine qe_seq ?_
      refine wc_seq ?_
      refine wc_region ?_
      refine wl_val wn rfl (rv_move rfl) ?_
      refine wl_val wn rfl (rv_nilCheck rfl) ?_
      refine wl_val wn rfl (rv_fieldAddr ff90_1 rfl) ?_
      refine wl_val wn rfl (rv_loadm1 tf3 rfl (.head _) hS16 rfl) ?_
      refine wl_val wn rfl (rv_sub rfl rfl) ?_
      refine wl_val wn rfl (rv_assign rfl) ?_
      refine wl_nil ?_
      refine qe_seq ?_
      refine wc_seq ?_
      refine wc_seq ?_
      refine wc_region ?_
      refine wl_val wn rfl (rv_move rfl) ?_
      refine wl_val wn rfl (rv_move rfl) ?_
      refine wl_val wn rfl (rv_nilCheck rfl) ?_
      refine wl_val wn rfl (rv_fieldAddr ff90_0 rfl) ?_
      refine wl_val wn rfl (rv_loadm1 tf22 rfl (.head _) hS16 rfl) ?_
      refine wl_val wn rfl (rv_len (t := tU8) Try.underlying22 rfl (SliceAt.mono hl14 hs5)) ?_
      refine wl_val wn rfl (rv_lss rfl rfl) ?_
      refine wl_nil ?_
      refine qe_seq ?_
      refine wc_cond rfl (fun hb21 => ?_) (fun hb21 => ?_)
      · have h22 := cond_t hb21 h20
        refine wc_seq ?_
        refine wc_region ?_
        refine wl_val wn rfl (rv_move rfl) ?_
        refine wl_val wn rfl (rv_nilCheck rfl) ?_
        refine wl_val wn rfl (rv_fieldAddr ff90_0 rfl) ?_
        refine wl_val wn rfl (rv_loadm1 tf22 rfl (.head _) hS16 rfl) ?_
        refine wl_val wn rfl (rv_move rfl) ?_
        obtain ⟨x23, hx24, h25⟩ := Option.bind_eq_some_iff.1 h22
        refine wl_indexAddr (t := tU8) wn rfl Try.underlying22 tf5 rfl rfl (SliceAt.mono hl14 hs5) hx24 ?_
        intro b26 o27 u28 hu29 ha30
        obtain rfl := hu29
        have ha31 : AtK _ b26 o27 [iv8 x23] := ha30
        refine wl_val wn rfl (rv_load1 tf5 rfl hS16 (ha31 0 _ rfl)) ?_
        refine wl_val wn rfl (rv_b2i Try.underlying5 Try.underlying3 rfl) ?_
        refine wl_val wn rfl (rv_move rfl) ?_
        obtain ⟨x32, hx33, h34⟩ := Option.bind_eq_some_iff.1 h25
        refine wl_val wn rfl (rv_rem rfl rfl hx33) ?_
        refine wl_val wn rfl (rv_assign rfl) ?_
        refine wl_nil ?_
        refine qe_seq ?_
        refine wc_ret ?_
        refine qe_then_ret ?_
        obtain rfl := Option.some.inj h34
        exact qe_ret (vs := [_]) Try.results61 ⟨rfl, trivial⟩ ⟨a2, n3, c4, K13, rfl, hS16, (rng_rem (rng_u8 _) hx33), (SliceAt.mono hl14 hs5), (w64_rng _)⟩
      · have h22 := cond_f hb21 h20
        refine wc_skip ?_
        refine qe_seq ?_
        refine wc_seq ?_
        refine wc_quiet mixed (by kernel_rfl) hS16 ?_
        refine wq_val wn rfl (fun _ _ => (rv_move rfl)) ?_
        refine wq_val wn rfl (fun _ _ => (rv_nilCheck rfl)) ?_
        refine wq_val wn rfl (fun _ _ => (rv_fieldAddr ff90_0 rfl)) ?_
        refine wq_val wn rfl (rq_loadm1 tf22 rfl (.head _) rfl) ?_
        refine wq_val wn rfl (fun _ _ => (rv_move rfl)) ?_
        refine wq_val wn rfl (fun _ _ => (rv_move rfl)) ?_
        refine wq_val wn rfl (fun _ _ => (rv_nilCheck rfl)) ?_
        refine wq_val wn rfl (fun _ _ => (rv_fieldAddr ff90_0 rfl)) ?_
        refine wq_val wn rfl (rq_loadm1 tf22 rfl (.head _) rfl) ?_
        refine wq_val wn rfl (fun _ _ => (rv_len (t := tU8) Try.underlying22 rfl (SliceAt.mono hl14 hs5))) ?_
        obtain ⟨x35, hx36, h37⟩ := Option.bind_eq_some_iff.1 h22
        refine wq_val wn rfl (fun _ _ => (rv_rem rfl rfl hx36)) ?_
        obtain ⟨x38, hx39, h40⟩ := Option.bind_eq_some_iff.1 h37
        refine wq_indexAddr (t := tU8) wn rfl Try.underlying22 tf5 rfl rfl (SliceAt.mono hl14 hs5) hx39 ?_
        intro b41 o42 u43 hu44 ha45
        obtain rfl := hu44
        have ha46 : AtK _ b41 o42 [iv8 x38] := ha45
        refine wq_val wn rfl (rq_load1 tf5 rfl (ha46 0 _ rfl)) ?_
        refine wq_val wn rfl (fun _ _ => (rv_b2i Try.underlying5 Try.underlying3 rfl)) ?_
        refine wq_val wn rfl (fun _ _ => (rv_mul rfl rfl)) ?_
        refine wq_val wn rfl (fun _ _ => (rv_move rfl)) ?_
        refine wq_val wn rfl (fun _ _ => (rv_nilCheck rfl)) ?_
        refine wq_val wn rfl (fun _ _ => (rv_fieldAddr ff90_0 rfl)) ?_
        refine wq_val wn rfl (rq_loadm1 tf22 rfl (.head _) rfl) ?_
        refine wq_val wn rfl (fun _ _ => (rv_move rfl)) ?_
        refine wq_val wn rfl (fun _ _ => (rv_mul rfl rfl)) ?_
        refine wq_val wn rfl (fun _ _ => (rv_add rfl rfl)) ?_
        refine wq_val wn rfl (fun _ _ => (rv_move rfl)) ?_
        refine wq_val wn rfl (fun _ _ => (rv_nilCheck rfl)) ?_
        refine wq_val wn rfl (fun _ _ => (rv_fieldAddr ff90_0 rfl)) ?_
        refine wq_val wn rfl (rq_loadm1 tf22 rfl (.head _) rfl) ?_
        refine wq_val wn rfl (fun _ _ => (rv_len (t := tU8) Try.underlying22 rfl (SliceAt.mono hl14 hs5))) ?_
        obtain ⟨x47, hx48, h49⟩ := Option.bind_eq_some_iff.1 h40
        refine wq_val wn rfl (fun _ _ => (rv_rem rfl rfl hx48)) ?_
        obtain ⟨x50, hx51, h52⟩ := Option.bind_eq_some_iff.1 h49
        refine wq_indexAddr (t := tU8) wn rfl Try.underlying22 tf5 rfl rfl (SliceAt.mono hl14 hs5) hx51 ?_
        intro b53 o54 u55 hu56 ha57
        obtain rfl := hu56
        have ha58 : AtK _ b53 o54 [iv8 x50] := ha57
        refine wq_val wn rfl (rq_load1 tf5 rfl (ha58 0 _ rfl)) ?_
        refine wq_val wn rfl (fun _ _ => (rv_b2i Try.underlying5 Try.underlying3 rfl)) ?_
        refine wq_val wn rfl (fun _ _ => (rv_mul rfl rfl)) ?_
        refine wq_val wn rfl (fun _ _ => (rv_add rfl rfl)) ?_
        refine wq_val wn rfl (fun _ _ => (rv_move rfl)) ?_
        refine wq_val wn rfl (fun _ _ => (rv_mul rfl rfl)) ?_
        refine wq_val wn rfl (fun _ _ => (rv_add rfl rfl)) ?_
        refine wq_val wn rfl (fun _ _ => (rv_move rfl)) ?_
        refine wq_val wn rfl (fun _ _ => (rv_move rfl)) ?_
        refine wq_val wn rfl (fun _ _ => (rv_nilCheck rfl)) ?_
        refine wq_val wn rfl (fun _ _ => (rv_fieldAddr ff90_0 rfl)) ?_
        refine wq_val wn rfl (rq_loadm1 tf22 rfl (.head _) rfl) ?_
        refine wq_val wn rfl (fun _ _ => (rv_len (t := tU8) Try.underlying22 rfl (SliceAt.mono hl14 hs5))) ?_
        obtain ⟨x59, hx60, h61⟩ := Option.bind_eq_some_iff.1 h52
        refine wq_val wn rfl (fun _ _ => (rv_quo rfl rfl hx60)) ?_
        refine wq_val wn rfl (fun _ _ => (rv_mul rfl rfl)) ?_
        refine wq_val wn rfl (fun _ _ => (rv_add rfl rfl)) ?_
        obtain ⟨x62, hx63, h64⟩ := Option.bind_eq_some_iff.1 h61
        have e65 := Option.some.inj hx63
        refine wq_val wn rfl (fun _ _ => (rv_as rfl (congrArg (Value.int .i64) e65))) ?_
        refine wq_nil ?_
        rintro w67 ⟨K66, hS68, hl69⟩
        refine qe_seq ?_
        refine wc_seq ?_
        refine wc_region ?_
        refine wl_val wn rfl (rv_move rfl) ?_
        refine wl_val wn rfl (rv_move rfl) ?_
        obtain ⟨x70, hx71, h72⟩ := Option.bind_eq_some_iff.1 h64
        refine wl_val wn rfl (rv_quo rfl rfl hx71) ?_
        refine wl_val wn rfl (rv_xor rfl rfl) ?_
        refine wl_val wn rfl (rv_assign rfl) ?_
        refine wl_nil ?_
        refine qe_seq ?_
        refine wc_seq ?_
        refine wc_region ?_
        refine wl_val wn rfl (rv_move rfl) ?_
        refine wl_val wn rfl (rv_move rfl) ?_
        obtain ⟨x73, hx74, h75⟩ := Option.bind_eq_some_iff.1 h72
        refine wl_val wn rfl (rv_rem rfl rfl hx74) ?_
        refine wl_val wn rfl (rv_assign rfl) ?_
        refine wl_nil ?_
        refine qe_seq ?_
        refine wc_ret ?_
        obtain rfl := Option.some.inj h75
        exact qe_ret (vs := [_]) Try.results61 ⟨rfl, trivial⟩ ⟨a2, n3, c4, K66, rfl, hS68, (rng_rem (w64_rng _) hx74), (SliceAt.mono (hl14.trans hl69) hs5), (w64_rng _)⟩

theorem ok_spec_l30Rd_of (F : Nat) {w : World} {K : KMap} {g1 : Nat} {a2 : Option Addr} {n3 c4 : Nat} {a7 : Option Addr} {n8 c9 : Nat} {p0_r : GL30Rd} {p1_list : List Str} {r : Str × GL30Rd} (hS : SH w K (List.filterMap Item.g [obj g1 [.slice a2 n3 c4, .int .i64 p0_r.p_] 90]) w K [obj g1 [.slice a2 n3 c4, .int .i64 p0_r.p_] 90]) (hs5 : SliceAt tU8 K a2 n3 c4 p0_r.b_) (hr6 : rng64 p0_r.p_) (hs10 : SliceAt tStr K a7 n8 c9 p1_list) (hm : M.spec_l30Rd_of F p0_r p1_list = some r) :
    Calls Try.prog 49 #[.pointer (some ⟨g1, 0, none⟩), .slice a7 n8 c9] w fun e w' => ∃ (a_2 : Option Addr) (n_3 c_4 : Nat) (K' : KMap), e = .returned (sv r.1) ∧ SH w K (List.filterMap Item.g [obj g1 [.slice a2 n3 c4, .int .i64 p0_r.p_] 90]) w' K' [obj g1 [.slice a_2 n_3 c_4, .int .i64 r.2.p_] 90] ∧ r.1.length ≤ maxLen ∧ SliceAt tU8 K' a_2 n_3 c_4 r.2.b_ ∧ rng64 r.2.p_ := by
  rw [M.spec_l30Rd_of] at hm
  refine calls_in Try.func49 rfl Try.ntmps49 rfl ?_
  refine wc_seq ?_
  refine wc_region ?_
  refine wl_val wn rfl (rv_assign (v := sv []) rfl) ?_
  refine wl_nil ?_
  refine qe_seq ?_
  refine wc_seq ?_
  refine wc_region ?_
  refine wl_val wn rfl (rv_move rfl) ?_
  refine wl_val wn rfl (rv_move rfl) ?_
  refine wl_val wn rfl (rv_move rfl) ?_
  refine wl_val wn rfl (rv_len (t := tStr) Try.underlying26 rfl hs10) ?_
  obtain ⟨r11, hx12, h13⟩ := Option.bind_eq_some_iff.1 hm
  refine wl_call wn rfl (rt_call (vs := [.pointer (some ⟨g1, 0, none⟩), .int .i64 (p1_list.length : Int)]) co61 rfl) ((ok_spec_l30Rd_pick F) (SH.enter (Lin := [_]) hS) hs5 hr6 (rng_nat (SliceAt.max hs10)) hx12) ?_
  rintro e23 w15 ⟨a18, n19, c20, K14, rfl, hS16, hr17, hs21, hr22⟩
  refine ⟨_, rfl, ?_⟩
  have hS24 : SH _ _ _ _ _ [_] := SH.call (Lin := [_]) hS hS16
  obtain ⟨x25, hx26, h27⟩ := Option.bind_eq_some_iff.1 h13
  refine wl_indexAddr (t := tStr) wn rfl Try.underlying26 tf9 rfl rfl (SliceAt.mono hS16.le hs10) hx26 ?_
  intro b28 o29 u30 hu31 ha32
  obtain ⟨rfl, hl33⟩ := hu31
  have ha34 : AtK _ b28 o29 [sv x25] := ha32
  refine wl_val wn rfl (rv_load1 tf9 rfl hS24 (ha34 0 _ rfl)) ?_
  refine wl_val wn rfl (rv_assign rfl) ?_
  refine wl_nil ?_
  refine qe_seq ?_
  refine wc_ret ?_
  obtain rfl := Option.some.inj h27
  exact qe_ret (vs := [_]) Try.results49 ⟨rfl, trivial⟩ ⟨a18, n19, c20, K14, rfl, hS24, hl33, hs21, hr22⟩

theorem ok_spec_l30Raw (F : Nat) {w : World} {K : KMap} {g1 : Nat} {a2 : Option Addr} {n3 c4 : Nat} {p0_r : GL30Rd} {r : Str × GL30Rd} (hS : SH w K (List.filterMap Item.g [obj g1 [.slice a2 n3 c4, .int .i64 p0_r.p_] 90]) w K [obj g1 [.slice a2 n3 c4, .int .i64 p0_r.p_] 90]) (hs5 : SliceAt tU8 K a2 n3 c4 p0_r.b_) (hr6 : rng64 p0_r.p_) (hm : M.spec_l30Raw F p0_r = some r) :
    Calls Try.prog 74 #[.pointer (some ⟨g1, 0, none⟩)] w fun e w' => ∃ (a_2 : Option Addr) (n_3 c_4 : Nat) (K' : KMap), e = .returned (sv r.1) ∧ SH w K (List.filterMap Item.g [obj g1 [.slice a2 n3 c4, .int .i64 p0_r.p_] 90]) w' K' [obj g1 [.slice a_2 n_3 c_4, .int .i64 r.2.p_] 90] ∧ r.1.length ≤ maxLen ∧ SliceAt tU8 K' a_2 n_3 c_4 r.2.b_ ∧ rng64 r.2.p_ := by
  rw [M.spec_l30Raw] at hm
  refine calls_in Try.func74 rfl Try.ntmps74 rfl ?_
  refine wc_seq ?_
  refine wc_region ?_
  refine wl_val wn rfl (rv_assign (v := sv []) rfl) ?_
  refine wl_nil ?_
  refine qe_seq ?_
  refine wc_seq ?_
  refine wc_region ?_
  refine wl_val wn rfl (rv_move rfl) ?_
  refine wl_buildSlice (t := tStr) (n := 16) (pv := [(0, sv [99, 97, 116]), (1, sv [67, 97, 116, 115]), (2, sv [100, 111, 103]), (3, sv [100, 111, 103, 115]), (4, sv [114, 117, 110]), (5, sv [82, 85, 78, 78, 73, 78, 71]), (6, sv [116, 104, 101]), (7, sv [114, 101, 100]), (8, sv [98, 105, 103]), (9, sv [110, 101, 119, 32, 121, 111, 114, 107]), (10, sv [78, 101, 119, 32, 32, 89, 111, 114, 107]), (11, sv [110, 121]), (12, sv [102, 111, 120]), (13, sv [112, 97, 115, 115, 101, 100]), (14, sv [120, 49]), (15, sv [97, 118, 101, 114, 121, 118, 101, 114, 121, 108, 111, 110, 103, 119, 111, 114, 100])]) (cs := [sv [99, 97, 116], sv [67, 97, 116, 115], sv [100, 111, 103], sv [100, 111, 103, 115], sv [114, 117, 110], sv [82, 85, 78, 78, 73, 78, 71], sv [116, 104, 101], sv [114, 101, 100], sv [98, 105, 103], sv [110, 101, 119, 32, 121, 111, 114, 107], sv [78, 101, 119, 32, 32, 89, 111, 114, 107], sv [110, 121], sv [102, 111, 120], sv [112, 97, 115, 115, 101, 100], sv [120, 49], sv [97, 118, 101, 114, 121, 118, 101, 114, 121, 108, 111, 110, 103, 119, 111, 114, 100]]) (xs := [([99, 97, 116] : Str), ([67, 97, 116, 115] : Str), ([100, 111, 103] : Str), ([100, 111, 103, 115] : Str), ([114, 117, 110] : Str), ([82, 85, 78, 78, 73, 78, 71] : Str), ([116, 104, 101] : Str), ([114, 101, 100] : Str), ([98, 105, 103] : Str), ([110, 101, 119, 32, 121, 111, 114, 107] : Str), ([78, 101, 119, 32, 32, 89, 111, 114, 107] : Str), ([110, 121] : Str), ([102, 111, 120] : Str), ([112, 97, 115, 115, 101, 100] : Str), ([120, 49] : Str), ([97, 118, 101, 114, 121, 118, 101, 114, 121, 108, 111, 110, 103, 119, 111, 114, 100] : Str)]) wn rfl Try.underlying26 tf9 rfl rfl rfl (by kernel_rfl) rfl rfl (lit_cons (u := sv [99, 97, 116]) (z := ([99, 97, 116] : Str)) ⟨rfl, (by decide : ([99, 97, 116] : Str).length ≤ maxLen)⟩ (lit_cons (u := sv [67, 97, 116, 115]) (z := ([67, 97, 116, 115] : Str)) ⟨rfl, (by decide : ([67, 97, 116, 115] : Str).length ≤ maxLen)⟩ (lit_cons (u := sv [100, 111, 103]) (z := ([100, 111, 103] : Str)) ⟨rfl, (by decide : ([100, 111, 103] : Str).length ≤ maxLen)⟩ (lit_cons (u := sv [100, 111, 103, 115]) (z := ([100, 111, 103, 115] : Str)) ⟨rfl, (by decide : ([100, 111, 103, 115] : Str).length ≤ maxLen)⟩ (lit_cons (u := sv [114, 117, 110]) (z := ([114, 117, 110] : Str)) ⟨rfl, (by decide : ([114, 117, 110] : Str).length ≤ maxLen)⟩ (lit_cons (u := sv [82, 85, 78, 78, 73, 78, 71]) (z := ([82, 85, 78, 78, 73, 78, 71] : Str)) ⟨rfl, (by decide : ([82, 85, 78, 78, 73, 78, 71] : Str).length ≤ maxLen)⟩ (lit_cons (u := sv [116, 104, 101]) (z := ([116, 104, 101] : Str)) ⟨rfl, (by decide : ([116, 104, 101] : Str).length ≤ maxLen)⟩ (lit_cons (u := sv [114, 101, 100]) (z := ([114, 101, 100] : Str)) ⟨rfl, (by decide : ([114, 101, 100] : Str).length ≤ maxLen)⟩ (lit_cons (u := sv [98, 105, 103]) (z := ([98, 105, 103] : Str)) ⟨rfl, (by decide : ([98, 105, 103] : Str).length ≤ maxLen)⟩ (lit_cons (u := sv [110, 101, 119, 32, 121, 111, 114, 107]) (z := ([110, 101, 119, 32, 121, 111, 114, 107] : Str)) ⟨rfl, (by decide : ([110, 101, 119, 32, 121, 111, 114, 107] : Str).length ≤ maxLen)⟩ (lit_cons (u := sv [78, 101, 119, 32, 32, 89, 111, 114, 107]) (z := ([78, 101, 119, 32, 32, 89, 111, 114, 107] : Str)) ⟨rfl, (by decide : ([78, 101, 119, 32, 32, 89, 111, 114, 107] : Str).length ≤ maxLen)⟩ (lit_cons (u := sv [110, 121]) (z := ([110, 121] : Str)) ⟨rfl, (by decide : ([110, 121] : Str).length ≤ maxLen)⟩ (lit_cons (u := sv [102, 111, 120]) (z := ([102, 111, 120] : Str)) ⟨rfl, (by decide : ([102, 111, 120] : Str).length ≤ maxLen)⟩ (lit_cons (u := sv [112, 97, 115, 115, 101, 100]) (z := ([112, 97, 115, 115, 101, 100] : Str)) ⟨rfl, (by decide : ([112, 97, 115, 115, 101, 100] : Str).length ≤ maxLen)⟩ (lit_cons (u := sv [120, 49]) (z := ([120, 49] : Str)) ⟨rfl, (by decide : ([120, 49] : Str).length ≤ maxLen)⟩ (lit_cons (u := sv [97, 118, 101, 114, 121, 118, 101, 114, 121, 108, 111, 110, 103, 119, 111, 114, 100]) (z := ([97, 118, 101, 114, 121, 118, 101, 114, 121, 108, 111, 110, 103, 119, 111, 114, 100] : Str)) ⟨rfl, (by decide : ([97, 118, 101, 114, 121, 118, 101, 114, 121, 108, 111, 110, 103, 119, 111, 114, 100] : Str).length ≤ maxLen)⟩ lit_nil)))))))))))))))) hS ?_
  intro a7 w8 K9 hl10 hs11 hS12
  obtain ⟨r13, hx14, h15⟩ := Option.bind_eq_some_iff.1 hm
  have hS16 : SH _ _ _ _ _ [_, _] := SH.front (p := [_]) hS12
  refine wl_call wn rfl (rt_call (vs := [.pointer (some ⟨g1, 0, none⟩), .slice a7 16 16]) co49 rfl) ((ok_spec_l30Rd_of F) (SH.enter (Lin := [_]) hS16) (SliceAt.mono hl10 hs5) hr6 hs11 hx14) ?_
  rintro e26 w18 ⟨a21, n22, c23, K17, rfl, hS19, hl20, hs24, hr25⟩
  refine ⟨_, rfl, ?_⟩
  have hS27 : SH _ _ _ _ _ [_, _] := SH.call (Lin := [_]) hS16 hS19
  refine wl_val wn rfl (rv_assign rfl) ?_
  refine wl_nil ?_
  refine qe_seq ?_
  refine wc_ret ?_
  obtain rfl := Option.some.inj h15
  have hS28 : SH _ _ _ _ _ [_] := SH.sublist hS27 (.cons_cons _ (.cons _ .slnil))
  exact qe_ret (vs := [_]) Try.results74 ⟨rfl, trivial⟩ ⟨a21, n22, c23, K17, rfl, hS28, hl20, hs24, hr25⟩

theorem ok_spec_l30Text (F : Nat) {w : World} {K : KMap} {g1 : Nat} {a2 : Option Addr} {n3 c4 : Nat} {p0_r : GL30Rd} {r : Str × GL30Rd} (hS : SH w K (List.filterMap Item.g [obj g1 [.slice a2 n3 c4, .int .i64 p0_r.p_] 90]) w K [obj g1 [.slice a2 n3 c4, .int .i64 p0_r.p_] 90]) (hs5 : SliceAt tU8 K a2 n3 c4 p0_r.b_) (hr6 : rng64 p0_r.p_) (hm : M.spec_l30Text F p0_r = some r) :
    Calls Try.prog 50 #[.pointer (some ⟨g1, 0, none⟩)] w fun e w' => ∃ (a_2 : Option Addr) (n_3 c_4 : Nat) (K' : KMap), e = .returned (sv r.1) ∧ SH w K (List.filterMap Item.g [obj g1 [.slice a2 n3 c4, .int .i64 p0_r.p_] 90]) w' K' [obj g1 [.slice a_2 n_3 c_4, .int .i64 r.2.p_] 90] ∧ r.1.length ≤ maxLen ∧ SliceAt tU8 K' a_2 n_3 c_4 r.2.b_ ∧ rng64 r.2.p_ := by
  rw [M.spec_l30Text] at hm
  refine calls_in Try.func50 rfl Try.ntmps50 rfl ?_
  refine wc_seq ?_
  refine wc_region ?_
  refine wl_val wn rfl (rv_assign (v := sv []) rfl) ?_
  refine wl_nil ?_
  refine qe_seq ?_
  refine wc_seq ?_
  refine wc_region ?_
  refine wl_val wn rfl (rv_assign (v := sv []) rfl) ?_
  refine wl_nil ?_
  refine qe_seq ?_
  refine wc_seq ?_
  refine wc_seq ?_
  refine wc_region ?_
  refine wl_val wn rfl (rv_move rfl) ?_
  obtain ⟨r7, hx8, h9⟩ := Option.bind_eq_some_iff.1 hm
  refine wl_call wn rfl (rt_call (vs := [.pointer (some ⟨g1, 0, none⟩), .int .i64 9]) co61 rfl) ((ok_spec_l30Rd_pick F) (SH.enter (Lin := [_]) hS) hs5 hr6 (by decide : rng64 9) hx8) ?_
  rintro e19 w11 ⟨a14, n15, c16, K10, rfl, hS12, hr13, hs17, hr18⟩
  refine ⟨_, rfl, ?_⟩
  have hS20 : SH _ _ _ _ _ [_] := SH.call (Lin := [_]) hS hS12
  refine wl_val wn rfl (rv_assign rfl) ?_
  refine wl_nil ?_
  refine qe_seq ?_
  obtain ⟨o21, h22, h23⟩ := Option.bind_eq_some_iff.1 h9
  refine wc_cutg (fun E' w' => ∃ (a29 : Option Addr) (n30 c31 : Nat) (K24 : KMap), E' = [(0, .pointer (some ⟨g1, 0, none⟩)), (3, sv o21.1)] ∧ SH w K (List.filterMap Item.g [obj g1 [.slice a2 n3 c4, .int .i64 p0_r.p_] 90]) w' K24 [obj g1 [.slice a29 n30 c31, .int .i64 o21.2.p_] 90] ∧ KLe K10 K24 ∧ o21.1.length ≤ maxLen ∧ SliceAt tU8 K24 a29 n30 c31 o21.2.b_ ∧ rng64 o21.2.p_) ?_ ?_
  · refine wc_block ?_
    obtain ⟨r35, h36, h37⟩ := Option.bind_eq_some_iff.1 h22
    refine wc_while' (fun (s34 : Str × Int × GL30Rd) E' w' => ∃ (a44 : Option Addr) (n45 c46 : Nat) (K38 : KMap), E' = [(0, .pointer (some ⟨g1, 0, none⟩)), (3, sv s34.1), (4, .int .i64 s34.2.1)] ∧ SH w K (List.filterMap Item.g [obj g1 [.slice a2 n3 c4, .int .i64 p0_r.p_] 90]) w' K38 [obj g1 [.slice a44 n45 c46, .int .i64 s34.2.2.p_] 90] ∧ KLe K10 K38 ∧ s34.1.length ≤ maxLen ∧ rng64 s34.2.1 ∧ SliceAt tU8 K38 a44 n45 c46 s34.2.2.b_ ∧ rng64 s34.2.2.p_) h36 ⟨a14, n15, c16, K10, rfl, hS20, (KLe.refl _), (by decide : ([] : Str).length ≤ maxLen), hr13, hs17, hr18⟩ ⟨rfl, rfl, rfl, trivial⟩ ?_
    rintro s34 _ w40 r49 h50 hx51 ⟨a44, n45, c46, K38, rfl, hS41, hl39, hl42, hr43, hs47, hr48⟩
    refine wc_seq ?_
    refine wc_seq ?_
    refine wc_region ?_
    refine wl_val wn rfl (rv_move rfl) ?_
    refine wl_val wn rfl (rv_gtr rfl rfl) ?_
    refine wl_nil ?_
    refine qe_seq ?_
    refine wc_cond rfl (fun hb52 => ?_) (fun hb52 => ?_)
    · have h53 := cond_t hb52 h50
      refine wc_skip ?_
      refine qe_seq ?_
      refine wc_seq ?_
      refine wc_block ?_
      refine wc_region ?_
      refine wl_val wn rfl (rv_move rfl) ?_
      refine wl_val wn rfl (rv_move rfl) ?_
      obtain ⟨r54, hx55, h56⟩ := Option.bind_eq_some_iff.1 h53
      refine wl_call wn rfl (rt_call (vs := [.pointer (some ⟨g1, 0, none⟩)]) co74 rfl) ((ok_spec_l30Raw F) (SH.enter (Lin := [_]) hS41) hs47 hr48 hx55) ?_
      rintro e66 w58 ⟨a61, n62, c63, K57, rfl, hS59, hl60, hs64, hr65⟩
      refine ⟨_, rfl, ?_⟩
      have hS67 : SH _ _ _ _ _ [_] := SH.call (Lin := [_]) hS41 hS59
      obtain ⟨x68, hx69, h70⟩ := Option.bind_eq_some_iff.1 h56
      refine wl_val wn rfl (rv_sadd rfl rfl hx69) ?_
      refine wl_val wn rfl (rv_move rfl) ?_
      refine wl_buildSlice (t := tStr) (n := 5) (pv := [(0, sv [32]), (1, sv [32]), (2, sv [44, 32]), (3, sv [45]), (4, sv [46, 32])]) (cs := [sv [32], sv [32], sv [44, 32], sv [45], sv [46, 32]]) (xs := [([32] : Str), ([32] : Str), ([44, 32] : Str), ([45] : Str), ([46, 32] : Str)]) wn rfl Try.underlying26 tf9 rfl rfl rfl (by kernel_rfl) rfl rfl (lit_cons (u := sv [32]) (z := ([32] : Str)) ⟨rfl, (by decide : ([32] : Str).length ≤ maxLen)⟩ (lit_cons (u := sv [32]) (z := ([32] : Str)) ⟨rfl, (by decide : ([32] : Str).length ≤ maxLen)⟩ (lit_cons (u := sv [44, 32]) (z := ([44, 32] : Str)) ⟨rfl, (by decide : ([44, 32] : Str).length ≤ maxLen)⟩ (lit_cons (u := sv [45]) (z := ([45] : Str)) ⟨rfl, (by decide : ([45] : Str).length ≤ maxLen)⟩ (lit_cons (u := sv [46, 32]) (z := ([46, 32] : Str)) ⟨rfl, (by decide : ([46, 32] : Str).length ≤ maxLen)⟩ lit_nil))))) hS67 ?_
      intro a71 w72 K73 hl74 hs75 hS76
      obtain ⟨r77, hx78, h79⟩ := Option.bind_eq_some_iff.1 h70
      have hS80 : SH _ _ _ _ _ [_, _] := SH.front (p := [_]) hS76
      refine wl_call wn rfl (rt_call (vs := [.pointer (some ⟨g1, 0, none⟩), .slice a71 5 5]) co49 rfl) ((ok_spec_l30Rd_of F) (SH.enter (Lin := [_]) hS80) (SliceAt.mono hl74 hs64) hr65 hs75 hx78) ?_
      rintro e90 w82 ⟨a85, n86, c87, K81, rfl, hS83, hl84, hs88, hr89⟩
      refine ⟨_, rfl, ?_⟩
      have hS91 : SH _ _ _ _ _ [_, _] := SH.call (Lin := [_]) hS80 hS83
      obtain ⟨x92, hx93, h94⟩ := Option.bind_eq_some_iff.1 h79
      refine wl_val wn rfl (rv_sadd rfl rfl hx93) ?_
      refine wl_val wn rfl (rv_assign rfl) ?_
      refine wl_nil ?_
      refine qe_block ?_
      refine qe_seq ?_
      refine wc_region ?_
      refine wl_val wn rfl (rv_move rfl) ?_
      refine wl_val wn rfl (rv_sub rfl rfl) ?_
      refine wl_val wn rfl (rv_assign rfl) ?_
      refine wl_nil ?_
      obtain rfl := Option.some.inj h94
      have hS95 : SH _ _ _ _ _ [_] := SH.sublist hS91 (.cons_cons _ (.cons _ .slnil))
      exact qe_mid' ⟨_, rfl, a85, n86, c87, K81, rfl, hS95, (((hl39.trans hS59.le).trans hl74).trans hS83.le), (len_cat hx93), (w64_rng _), hs88, hr89⟩ ⟨rfl, rfl, rfl, trivial⟩
    · have h53 := cond_f hb52 h50
      refine wc_exit ?_
      refine qe_then_exit ?_
      refine qe_then_exit ?_
      obtain rfl := Option.some.inj h53
      have e96 := hx51 _ rfl
      subst e96
      refine qe_block_eq ?_
      obtain rfl := Option.some.inj h37
      exact qe_mid' ⟨a44, n45, c46, K38, rfl, hS41, hl39, hl42, hs47, hr48⟩ ⟨rfl, rfl, trivial⟩
  · rintro _ w26 ⟨a29, n30, c31, K24, rfl, hS27, hl25, hl28, hs32, hr33⟩
    refine qe_seq ?_
    refine wc_seq ?_
    refine wc_region ?_
    refine wl_val wn rfl (rv_move rfl) ?_
    refine wl_val wn rfl (rv_assign rfl) ?_
    refine wl_nil ?_
    refine qe_seq ?_
    refine wc_ret ?_
    obtain rfl := Option.some.inj h23
    exact qe_ret (vs := [_]) Try.results50 ⟨rfl, trivial⟩ ⟨a29, n30, c31, K24, rfl, hS27, hl28, hs32, hr33⟩

theorem ok_spec_DrawCrc (F : Nat) {w : World} {K : KMap} {a1 : Option Addr} {n2 c3 : Nat} {p0_code : List UInt8} {r : Str} (hS : SH w K [] w K []) (hs4 : SliceAt tU8 K a1 n2 c3 p0_code) (hm : M.spec_DrawCrc F p0_code = some r) :
    Calls Try.prog 15 #[.slice a1 n2 c3] w fun e w' => ∃ (K' : KMap), e = .returned (sv r) ∧ SH w K [] w' K' [] ∧ r.length ≤ maxLen := by
  rw [M.spec_DrawCrc] at hm
  refine calls_in Try.func15 rfl Try.ntmps15 rfl ?_
  refine wc_seq ?_
  refine wc_region ?_
  refine wl_val wn rfl (rv_assign (v := sv []) rfl) ?_
  refine wl_nil ?_
  refine qe_seq ?_
  refine wc_seq ?_
  refine wc_region ?_
  refine wl_val wn rfl (rv_move rfl) ?_
  obtain ⟨r5, hx6, h7⟩ := Option.bind_eq_some_iff.1 hm
  refine wl_call wn rfl (rt_call (vs := [.slice a1 n2 c3]) co48 rfl) ((ok_spec_l30Open F) hS.enter0 hs4 hx6) ?_
  rintro e17 w9 ⟨g11, a12, n13, c14, K8, rfl, hS10, hs15, hr16⟩
  refine ⟨_, rfl, ?_⟩
  have hS18 : SH _ _ _ _ _ [_] := SH.call0 hS hS10
  refine wl_val wn rfl (rv_assign rfl) ?_
  refine wl_nil ?_
  refine qe_seq ?_
  refine wc_seq ?_
  refine wc_region ?_
  refine wl_val wn rfl (rv_move rfl) ?_
  refine wl_val wn rfl (rv_move rfl) ?_
  obtain ⟨r19, hx20, h21⟩ := Option.bind_eq_some_iff.1 h7
  refine wl_call wn rfl (rt_call (vs := [.pointer (some ⟨g11, 0, none⟩)]) co50 rfl) ((ok_spec_l30Text F) (SH.enter (Lin := [_]) hS18) hs15 hr16 hx20) ?_
  rintro e31 w23 ⟨a26, n27, c28, K22, rfl, hS24, hl25, hs29, hr30⟩
  refine ⟨_, rfl, ?_⟩
  have hS32 : SH _ _ _ _ _ [_] := SH.call (Lin := [_]) hS18 hS24
  refine wl_buildSlice (t := tStr) (n := 4) (pv := [(0, sv []), (1, sv [49, 50, 51, 52, 53, 54, 55, 56, 57]), (2, sv [97]), (3, sv r19.1)]) (cs := [sv [], sv [49, 50, 51, 52, 53, 54, 55, 56, 57], sv [97], sv r19.1]) (xs := [([] : Str), ([49, 50, 51, 52, 53, 54, 55, 56, 57] : Str), ([97] : Str), r19.1]) wn rfl Try.underlying26 tf9 rfl rfl rfl (by kernel_rfl) rfl rfl (lit_cons (u := sv []) (z := ([] : Str)) ⟨rfl, (by decide : ([] : Str).length ≤ maxLen)⟩ (lit_cons (u := sv [49, 50, 51, 52, 53, 54, 55, 56, 57]) (z := ([49, 50, 51, 52, 53, 54, 55, 56, 57] : Str)) ⟨rfl, (by decide : ([49, 50, 51, 52, 53, 54, 55, 56, 57] : Str).length ≤ maxLen)⟩ (lit_cons (u := sv [97]) (z := ([97] : Str)) ⟨rfl, (by decide : ([97] : Str).length ≤ maxLen)⟩ (lit_cons (u := sv r19.1) (z := r19.1) ⟨rfl, hl25⟩ lit_nil)))) hS32 ?_
  intro a33 w34 K35 hl36 hs37 hS38
  obtain ⟨r39, hx40, h41⟩ := Option.bind_eq_some_iff.1 h21
  have hS42 : SH _ _ _ _ _ [_, _] := SH.front (p := [_]) hS38
  refine wl_call wn rfl (rt_call (vs := [.pointer (some ⟨g11, 0, none⟩), .slice a33 4 4]) co49 rfl) ((ok_spec_l30Rd_of F) (SH.enter (Lin := [_]) hS42) (SliceAt.mono hl36 hs29) hr30 hs37 hx40) ?_
  rintro e52 w44 ⟨a47, n48, c49, K43, rfl, hS45, hl46, hs50, hr51⟩
  refine ⟨_, rfl, ?_⟩
  have hS53 : SH _ _ _ _ _ [_, _] := SH.call (Lin := [_]) hS42 hS45
  refine wl_val wn rfl (rv_assign rfl) ?_
  refine wl_nil ?_
  refine qe_seq ?_
  refine wc_ret ?_
  obtain rfl := Option.some.inj h41
  have hS54 : SH _ _ _ _ _ [] := SH.sublist hS53 (.cons _ (.cons _ .slnil))
  exact qe_ret (vs := [_]) Try.results15 ⟨rfl, trivial⟩ ⟨K43, rfl, hS54, hl46⟩

theorem ok_impl_Crc (F : Nat) {w : World} {K : KMap} {p0_s : Str} {r : Int} (hS : SH w K [] w K []) (hl1 : p0_s.length ≤ maxLen) (hm : M.impl_Crc F p0_s = some r) :
    Calls Try.prog 16 #[sv p0_s] w fun e w' => ∃ (K' : KMap), e = .returned (.int .i64 r) ∧ SH w K [] w' K' [] ∧ rng64 r := by
  rw [M.impl_Crc] at hm
  refine calls_in Try.func16 rfl Try.ntmps16 rfl ?_
  refine wc_seq ?_
  refine wc_region ?_
  refine wl_val wn rfl (rv_assign (v := .int .i64 0) rfl) ?_
  refine wl_nil ?_
  refine qe_seq ?_
  refine wc_seq ?_
  refine wc_region ?_
  refine wl_val wn rfl (rv_assign (v := iv32 4294967295) rfl) ?_
  refine wl_nil ?_
  refine qe_seq ?_
  refine wc_seq ?_
  refine wc_seq ?_
  refine wc_region ?_
  refine wl_val wn rfl (rv_move rfl) ?_
  refine wl_val wn rfl (rv_slen Try.underlying9 rfl) ?_
  refine wl_val wn rfl (rv_move (v := .int .i64 0) rfl) ?_
  refine wl_nil ?_
  refine qe_seq ?_
  obtain ⟨o2, h3, h4⟩ := Option.bind_eq_some_iff.1 hm
  refine wc_cutg (fun E' w' => ∃ (K5 : KMap), E' = [(3, iv32 o2)] ∧ SH w K [] w' K5 [] ∧ KLe K K5) ?_ ?_
  · refine wc_block ?_
    obtain ⟨r10, h11, h12⟩ := Option.bind_eq_some_iff.1 h3
    refine wc_forE' (fun (i13 : Nat) (s9 : UInt32) E' w' => ∃ (K14 : KMap), E' = [(0, sv p0_s), (3, iv32 s9), (6, .int .i64 (p0_s.length : Int)), (7, .int .i64 ((i13 : Nat) : Int))] ∧ SH w K [] w' K14 [] ∧ KLe K K14) h11 ⟨K, rfl, hS, (KLe.refl _)⟩ ⟨rfl, rfl, rfl, rfl, trivial⟩ ?_ ?_
    · rintro i13 s9 _ w16 r18 hi19 h20 ⟨K14, rfl, hS17, hl15⟩
      refine wc_seq (wc_region ?_)
      refine wl_val wn rfl (rv_lss rfl rfl) ?_
      refine wl_nil (qe_seq (wc_seq ?_))
      refine wc_cond_t rfl (decide_eq_true (by omega)) (wc_skip (qe_seq (wc_seq ?_)))
      refine wc_block ?_
      refine wc_seq ?_
      refine wc_region ?_
      refine wl_val wn rfl (rv_move rfl) ?_
      refine wl_val wn rfl (rv_assign rfl) ?_
      refine wl_nil ?_
      refine qe_seq ?_
      refine wc_seq ?_
      refine wc_region ?_
      refine wl_val wn rfl (rv_move rfl) ?_
      refine wl_val wn rfl (rv_move rfl) ?_
      refine wl_val wn rfl (rv_move rfl) ?_
      obtain ⟨x22, hx23, h24⟩ := Option.bind_eq_some_iff.1 h20
      refine wl_val wn rfl (rv_sidx Try.underlying9 rfl rfl hx23) ?_
      refine wl_val wn rfl (rv_b2w Try.underlying5 Try.underlying63 rfl) ?_
      refine wl_val wn rfl (rv_xor32 rfl rfl) ?_
      refine wl_val wn rfl (rv_assign rfl) ?_
      refine wl_nil ?_
      refine qe_seq ?_
      refine wc_seq ?_
      refine wc_region ?_
      refine wl_val wn rfl (rv_move (v := .int .i64 0) rfl) ?_
      refine wl_nil ?_
      refine qe_seq ?_
      obtain ⟨o25, h26, h27⟩ := Option.bind_eq_some_iff.1 h24
      refine wc_cutg (fun E' w' => ∃ (K28 : KMap), E' = [(0, sv p0_s), (3, iv32 o25), (6, .int .i64 (p0_s.length : Int)), (7, .int .i64 ((i13 : Nat) : Int))] ∧ SH w K [] w' K28 [] ∧ KLe K14 K28) ?_ ?_
      · refine wc_block ?_
        obtain ⟨r33, h34, h35⟩ := Option.bind_eq_some_iff.1 h26
        refine wc_forE' (fun (i36 : Nat) (s32 : UInt32) E' w' => ∃ (K37 : KMap), E' = [(0, sv p0_s), (3, iv32 s32), (6, .int .i64 (p0_s.length : Int)), (7, .int .i64 ((i13 : Nat) : Int)), (16, .int .i64 ((i36 : Nat) : Int))] ∧ SH w K [] w' K37 [] ∧ KLe K14 K37) h34 ⟨K14, rfl, hS17, (KLe.refl _)⟩ ⟨rfl, rfl, rfl, rfl, rfl, trivial⟩ ?_ ?_
        · rintro i36 s32 _ w39 r41 hi42 h43 ⟨K37, rfl, hS40, hl38⟩
          refine wc_seq (wc_region ?_)
          refine wl_val wn rfl (rv_lss rfl rfl) ?_
          refine wl_nil (qe_seq (wc_seq ?_))
          refine wc_cond_t rfl (decide_eq_true (by omega)) (wc_skip (qe_seq (wc_seq ?_)))
          refine wc_block ?_
          refine wc_seq ?_
          refine wc_region ?_
          refine wl_val wn rfl (rv_move rfl) ?_
          refine wl_val wn rfl (rv_and32 (b := (1 : UInt32)) rfl rfl) ?_
          refine wl_val wn rfl (rv_eql32 (b := (1 : UInt32)) rfl rfl) ?_
          refine wl_nil ?_
          refine qe_seq ?_
          refine wc_cond rfl (fun hb45 => ?_) (fun hb45 => ?_)
          · have h46 := cond_t hb45 h43
            refine wc_region ?_
            refine wl_val wn rfl (rv_move rfl) ?_
            refine wl_val wn rfl (rv_shr32 rfl rfl (by decide)) ?_
            refine wl_val wn rfl (rv_xor32 (b := (3988292384 : UInt32)) rfl rfl) ?_
            refine wl_val wn rfl (rv_assign rfl) ?_
            refine wl_nil ?_
            refine qe_block ?_
            refine qe_seq (wc_region ?_)
            refine wl_val wn rfl (rv_add_to rfl rfl (w64_succ hi42 (by decide))) ?_
            refine wl_val wn rfl (rv_move rfl) ?_
            refine wl_nil ?_
            obtain rfl := Option.some.inj h46
            exact qe_mid' ⟨K37, rfl, hS40, hl38⟩ ⟨rfl, rfl, rfl, rfl, rfl, trivial⟩
          · have h46 := cond_f hb45 h43
            refine wc_region ?_
            refine wl_val wn rfl (rv_move rfl) ?_
            refine wl_val wn rfl (rv_shr32 rfl rfl (by decide)) ?_
            refine wl_val wn rfl (rv_assign rfl) ?_
            refine wl_nil ?_
            refine qe_block ?_
            refine qe_seq (wc_region ?_)
            refine wl_val wn rfl (rv_add_to rfl rfl (w64_succ hi42 (by decide))) ?_
            refine wl_val wn rfl (rv_move rfl) ?_
            refine wl_nil ?_
            obtain rfl := Option.some.inj h46
            exact qe_mid' ⟨K37, rfl, hS40, hl38⟩ ⟨rfl, rfl, rfl, rfl, rfl, trivial⟩
        · rintro s32 _ w39 hr47 ⟨K37, rfl, hS40, hl38⟩
          subst hr47
          refine wc_seq (wc_region ?_)
          refine wl_val wn rfl (rv_lss rfl rfl) ?_
          refine wl_nil (qe_seq (wc_seq ?_))
          refine wc_cond_f rfl (decide_eq_false (by omega)) ?_
          refine wc_exit ?_
          refine qe_then_exit ?_
          refine qe_then_exit ?_
          refine qe_block_eq ?_
          obtain rfl := Option.some.inj h35
          exact qe_mid' ⟨K37, rfl, hS40, hl38⟩ ⟨rfl, rfl, rfl, rfl, trivial⟩
      · rintro _ w30 ⟨K28, rfl, hS31, hl29⟩
        refine qe_block ?_
        refine qe_seq (wc_region ?_)
        refine wl_val wn rfl (rv_add_to rfl rfl (w64_succ hi19 hl1)) ?_
        refine wl_val wn rfl (rv_move rfl) ?_
        refine wl_nil ?_
        obtain rfl := Option.some.inj h27
        exact qe_mid' ⟨K28, rfl, hS31, (hl15.trans hl29)⟩ ⟨rfl, rfl, rfl, rfl, trivial⟩
    · rintro s9 _ w16 hr48 ⟨K14, rfl, hS17, hl15⟩
      subst hr48
      refine wc_seq (wc_region ?_)
      refine wl_val wn rfl (rv_lss rfl rfl) ?_
      refine wl_nil (qe_seq (wc_seq ?_))
      refine wc_cond_f rfl (decide_eq_false (by omega)) ?_
      refine wc_exit ?_
      refine qe_then_exit ?_
      refine qe_then_exit ?_
      refine qe_block_eq ?_
      obtain rfl := Option.some.inj h12
      exact qe_mid' ⟨K14, rfl, hS17, hl15⟩ ⟨rfl, trivial⟩
  · rintro _ w7 ⟨K5, rfl, hS8, hl6⟩
    refine qe_seq ?_
    refine wc_seq ?_
    refine wc_region ?_
    refine wl_val wn rfl (rv_move rfl) ?_
    refine wl_val wn rfl (rv_not32 rfl) ?_
    refine wl_val wn rfl (rv_w2i Try.underlying63 Try.underlying3 rfl) ?_
    refine wl_val wn rfl (rv_assign rfl) ?_
    refine wl_nil ?_
    refine qe_seq ?_
    refine wc_ret ?_
    obtain rfl := Option.some.inj h4
    exact qe_ret (vs := [_]) Try.results16 ⟨rfl, trivial⟩ ⟨K5, rfl, hS8, (rng_u32 _)⟩

theorem ok_spec_l19Crc (F : Nat) {w : World} {K : KMap} {p0_s : Str} {r : Int} (hS : SH w K [] w K []) (hl1 : p0_s.length ≤ maxLen) (hm : M.spec_l19Crc F p0_s = some r) :
    Calls Try.prog 51 #[sv p0_s] w fun e w' => ∃ (K' : KMap), e = .returned (.int .i64 r) ∧ SH w K [] w' K' [] ∧ rng64 r := by
  rw [M.spec_l19Crc] at hm
  refine calls_in Try.func51 rfl Try.ntmps51 rfl ?_
  refine wc_seq ?_
  refine wc_region ?_
  refine wl_val wn rfl (rv_assign (v := .int .i64 0) rfl) ?_
  refine wl_nil ?_
  refine qe_seq ?_
  refine wc_seq ?_
  refine wc_region ?_
  refine wl_val wn rfl (rv_assign (v := .int .i64 4294967295) rfl) ?_
  refine wl_nil ?_
  refine qe_seq ?_
  refine wc_seq ?_
  refine wc_seq ?_
  refine wc_region ?_
  refine wl_val wn rfl (rv_assign (v := .int .i64 0) rfl) ?_
  refine wl_nil ?_
  refine qe_seq ?_
  obtain ⟨o2, h3, h4⟩ := Option.bind_eq_some_iff.1 hm
  refine wc_cutg (fun E' w' => ∃ (K5 : KMap), E' = [(3, .int .i64 o2)] ∧ SH w K [] w' K5 [] ∧ KLe K K5 ∧ rng64 o2) ?_ ?_
  · refine wc_block ?_
    obtain ⟨r11, h12, h13⟩ := Option.bind_eq_some_iff.1 h3
    refine wc_while' (fun (s10 : Int × Int) E' w' => ∃ (K14 : KMap), E' = [(0, sv p0_s), (3, .int .i64 s10.1), (4, .int .i64 s10.2)] ∧ SH w K [] w' K14 [] ∧ KLe K K14 ∧ rng64 s10.1 ∧ rng64 s10.2) h12 ⟨K, rfl, hS, (KLe.refl _), (by decide : rng64 4294967295), (by decide : rng64 0)⟩ ⟨rfl, rfl, rfl, trivial⟩ ?_
    rintro s10 _ w16 r20 h21 hx22 ⟨K14, rfl, hS17, hl15, hr18, hr19⟩
    refine wc_seq ?_
    refine wc_seq ?_
    refine wc_region ?_
    refine wl_val wn rfl (rv_move rfl) ?_
    refine wl_val wn rfl (rv_move rfl) ?_
    refine wl_val wn rfl (rv_slen Try.underlying9 rfl) ?_
    refine wl_val wn rfl (rv_lss rfl rfl) ?_
    refine wl_nil ?_
    refine qe_seq ?_
    refine wc_cond rfl (fun hb23 => ?_) (fun hb23 => ?_)
    · have h24 := cond_t hb23 h21
      refine wc_skip ?_
      refine qe_seq ?_
      refine wc_seq ?_
      refine wc_block ?_
      refine wc_seq ?_
      refine wc_region ?_
      refine wl_val wn rfl (rv_move rfl) ?_
      refine wl_val wn rfl (rv_move rfl) ?_
      refine wl_val wn rfl (rv_move rfl) ?_
      obtain ⟨x25, hx26, h27⟩ := Option.bind_eq_some_iff.1 h24
      refine wl_val wn rfl (rv_sidx Try.underlying9 rfl rfl hx26) ?_
      refine wl_val wn rfl (rv_b2i Try.underlying5 Try.underlying3 rfl) ?_
      refine wl_val wn rfl (rv_xor rfl rfl) ?_
      refine wl_val wn rfl (rv_assign rfl) ?_
      refine wl_nil ?_
      refine qe_seq ?_
      refine wc_seq ?_
      refine wc_region ?_
      refine wl_val wn rfl (rv_assign (v := .int .i64 0) rfl) ?_
      refine wl_nil ?_
      refine qe_seq ?_
      obtain ⟨o28, h29, h30⟩ := Option.bind_eq_some_iff.1 h27
      refine wc_cutg (fun E' w' => ∃ (K31 : KMap), E' = [(0, sv p0_s), (3, .int .i64 o28), (4, .int .i64 s10.2)] ∧ SH w K [] w' K31 [] ∧ KLe K14 K31 ∧ rng64 o28) ?_ ?_
      · refine wc_block ?_
        obtain ⟨r37, h38, h39⟩ := Option.bind_eq_some_iff.1 h29
        refine wc_while' (fun (s36 : Int × Int) E' w' => ∃ (K40 : KMap), E' = [(0, sv p0_s), (3, .int .i64 s36.1), (4, .int .i64 s10.2), (5, .int .i64 s36.2)] ∧ SH w K [] w' K40 [] ∧ KLe K14 K40 ∧ rng64 s36.1 ∧ rng64 s36.2) h38 ⟨K14, rfl, hS17, (KLe.refl _), (w64_rng _), (by decide : rng64 0)⟩ ⟨rfl, rfl, rfl, rfl, trivial⟩ ?_
        rintro s36 _ w42 r46 h47 hx48 ⟨K40, rfl, hS43, hl41, hr44, hr45⟩
        refine wc_seq ?_
        refine wc_seq ?_
        refine wc_region ?_
        refine wl_val wn rfl (rv_move rfl) ?_
        refine wl_val wn rfl (rv_lss rfl rfl) ?_
        refine wl_nil ?_
        refine qe_seq ?_
        refine wc_cond rfl (fun hb49 => ?_) (fun hb49 => ?_)
        · have h50 := cond_t hb49 h47
          refine wc_skip ?_
          refine qe_seq ?_
          refine wc_seq ?_
          refine wc_block ?_
          refine wc_seq ?_
          refine wc_region ?_
          refine wl_val wn rfl (rv_move rfl) ?_
          obtain ⟨x51, hx52, h53⟩ := Option.bind_eq_some_iff.1 h50
          refine wl_val wn rfl (rv_rem rfl rfl hx52) ?_
          refine wl_val wn rfl (rv_eql rfl rfl) ?_
          refine wl_nil ?_
          refine qe_seq ?_
          refine wc_cond rfl (fun hb54 => ?_) (fun hb54 => ?_)
          · have h55 := cond_t hb54 h53
            refine wc_region ?_
            refine wl_val wn rfl (rv_move rfl) ?_
            obtain ⟨x56, hx57, h58⟩ := Option.bind_eq_some_iff.1 h55
            refine wl_val wn rfl (rv_quo rfl rfl hx57) ?_
            refine wl_val wn rfl (rv_xor rfl rfl) ?_
            refine wl_val wn rfl (rv_assign rfl) ?_
            refine wl_nil ?_
            refine qe_block ?_
            refine qe_seq ?_
            refine wc_region ?_
            refine wl_val wn rfl (rv_move rfl) ?_
            refine wl_val wn rfl (rv_add rfl rfl) ?_
            refine wl_val wn rfl (rv_assign rfl) ?_
            refine wl_nil ?_
            obtain rfl := Option.some.inj h58
            exact qe_mid' ⟨_, rfl, K40, rfl, hS43, hl41, (w64_rng _), (w64_rng _)⟩ ⟨rfl, rfl, rfl, rfl, trivial⟩
          · have h55 := cond_f hb54 h53
            refine wc_region ?_
            refine wl_val wn rfl (rv_move rfl) ?_
            obtain ⟨x59, hx60, h61⟩ := Option.bind_eq_some_iff.1 h55
            refine wl_val wn rfl (rv_quo rfl rfl hx60) ?_
            refine wl_val wn rfl (rv_assign rfl) ?_
            refine wl_nil ?_
            refine qe_block ?_
            refine qe_seq ?_
            refine wc_region ?_
            refine wl_val wn rfl (rv_move rfl) ?_
            refine wl_val wn rfl (rv_add rfl rfl) ?_
            refine wl_val wn rfl (rv_assign rfl) ?_
            refine wl_nil ?_
            obtain rfl := Option.some.inj h61
            exact qe_mid' ⟨_, rfl, K40, rfl, hS43, hl41, (rng_quo hx60), (w64_rng _)⟩ ⟨rfl, rfl, rfl, rfl, trivial⟩
        · have h50 := cond_f hb49 h47
          refine wc_exit ?_
          refine qe_then_exit ?_
          refine qe_then_exit ?_
          obtain rfl := Option.some.inj h50
          have e62 := hx48 _ rfl
          subst e62
          refine qe_block_eq ?_
          obtain rfl := Option.some.inj h39
          exact qe_mid' ⟨K40, rfl, hS43, hl41, hr44⟩ ⟨rfl, rfl, rfl, trivial⟩
      · rintro _ w33 ⟨K31, rfl, hS34, hl32, hr35⟩
        refine qe_block ?_
        refine qe_seq ?_
        refine wc_region ?_
        refine wl_val wn rfl (rv_move rfl) ?_
        refine wl_val wn rfl (rv_add rfl rfl) ?_
        refine wl_val wn rfl (rv_assign rfl) ?_
        refine wl_nil ?_
        obtain rfl := Option.some.inj h30
        exact qe_mid' ⟨_, rfl, K31, rfl, hS34, (hl15.trans hl32), hr35, (w64_rng _)⟩ ⟨rfl, rfl, rfl, trivial⟩
    · have h24 := cond_f hb23 h21
      refine wc_exit ?_
      refine qe_then_exit ?_
      refine qe_then_exit ?_
      obtain rfl := Option.some.inj h24
      have e63 := hx22 _ rfl
      subst e63
      refine qe_block_eq ?_
      obtain rfl := Option.some.inj h13
      exact qe_mid' ⟨K14, rfl, hS17, hl15, hr18⟩ ⟨rfl, trivial⟩
  · rintro _ w7 ⟨K5, rfl, hS8, hl6, hr9⟩
    refine qe_seq ?_
    refine wc_seq ?_
    refine wc_region ?_
    refine wl_val wn rfl (rv_move rfl) ?_
    refine wl_val wn rfl (rv_xor rfl rfl) ?_
    refine wl_val wn rfl (rv_assign rfl) ?_
    refine wl_nil ?_
    refine qe_seq ?_
    refine wc_ret ?_
    obtain rfl := Option.some.inj h4
    exact qe_ret (vs := [_]) Try.results51 ⟨rfl, trivial⟩ ⟨K5, rfl, hS8, (w64_rng _)⟩
end Go.Proofs.Ytdopcpaapniioaa
