/-
  Walks of the functions. Printed by gen.py.
-/
import Derived.Test.YtajfhpaokbgmeaaFacts
set_option linter.unusedVariables false
namespace Go.Proofs.Ytajfhpaokbgmeaa
open Go Go.Fk Go.RowKit

theorem ok_spec_l30Open (F : Nat) {w : World} {K : KMap} {a1 : Option Addr} {n2 c3 : Nat} {p0_code : List UInt8} {r : GL30Rd} (hS : SH w K [] w K []) (hs4 : SliceAt tU8 K a1 n2 c3 p0_code) (hm : M.spec_l30Open F p0_code = some r) :
    Calls Try.prog 54 #[.slice a1 n2 c3] w fun e w' => ∃ (g_1 : Nat) (a_2 : Option Addr) (n_3 c_4 : Nat) (K' : KMap), e = .returned (.pointer (some ⟨g_1, 0, none⟩)) ∧ SH w K [] w' K' [obj g_1 [.slice a_2 n_3 c_4, .int .i64 r.p_] 135] ∧ SliceAt tU8 K' a_2 n_3 c_4 r.b_ ∧ rng64 r.p_ := by
  rw [M.spec_l30Open] at hm
  refine calls_in Try.func54 rfl Try.ntmps54 rfl ?_
  refine wc_seq ?_
  refine wc_region ?_
  refine wl_val wn rfl (rv_assign (v := .pointer none) rfl) ?_
  refine wl_nil ?_
  refine qe_seq ?_
  refine wc_seq ?_
  refine wc_seq ?_
  refine wc_region ?_
  refine wl_val wn rfl (rv_move rfl) ?_
  refine wl_val wn rfl (rv_len (t := tU8) Try.underlying33 rfl hs4) ?_
  refine wl_val wn rfl (rv_gtr rfl rfl) ?_
  refine wl_nil ?_
  refine qe_seq ?_
  refine wc_cond rfl (fun hb5 => ?_) (fun hb5 => ?_)
  · have h6 := cond_t hb5 hm
    refine wc_region ?_
    refine wl_val wn rfl (rv_move rfl) ?_
    obtain ⟨x7, hx8, h9⟩ := Option.bind_eq_some_iff.1 h6
    refine wl_sl_h (t := tU8) wn rfl Try.underlying33 tf5 rfl rfl hs4 hx8 ?_
    intro a10 n11 c12 hs13
    refine wl_val wn rfl (rv_assign rfl) ?_
    refine wl_nil ?_
    refine qe_seq ?_
    refine wc_seq ?_
    refine wc_region ?_
    refine wl_val wn rfl (rv_move rfl) ?_
    refine wl_val wn rfl (rv_build (cs := #[.slice a10 n11 c12, .int .i64 0]) sp135 tf135 rfl (by kernel_rfl)) ?_
    refine wl_box wn rfl rfl hS ?_
    intro g14 w15 hS16
    have hS17 : SH _ _ _ _ _ [obj g14 [.slice a10 n11 c12, .int .i64 0] 135] := hS16
    refine wl_val wn rfl (rv_assign rfl) ?_
    refine wl_nil ?_
    refine qe_seq ?_
    refine wc_ret ?_
    obtain rfl := Option.some.inj h9
    exact qe_ret (vs := [_]) Try.results54 ⟨rfl, trivial⟩ ⟨g14, a10, n11, c12, K, rfl, hS17, hs13, (by decide : rng64 0)⟩
  · have h6 := cond_f hb5 hm
    refine wc_skip ?_
    refine qe_seq ?_
    refine wc_seq ?_
    refine wc_region ?_
    refine wl_val wn rfl (rv_move rfl) ?_
    refine wl_val wn rfl (rv_build (cs := #[.slice a1 n2 c3, .int .i64 0]) sp135 tf135 rfl (by kernel_rfl)) ?_
    refine wl_box wn rfl rfl hS ?_
    intro g18 w19 hS20
    have hS21 : SH _ _ _ _ _ [obj g18 [.slice a1 n2 c3, .int .i64 0] 135] := hS20
    refine wl_val wn rfl (rv_assign rfl) ?_
    refine wl_nil ?_
    refine qe_seq ?_
    refine wc_ret ?_
    obtain rfl := Option.some.inj h6
    exact qe_ret (vs := [_]) Try.results54 ⟨rfl, trivial⟩ ⟨g18, a1, n2, c3, K, rfl, hS21, hs4, (by decide : rng64 0)⟩

theorem ok_spec_l30Rd_pick (F : Nat) {w : World} {K : KMap} {g1 : Nat} {a2 : Option Addr} {n3 c4 : Nat} {p0_r : GL30Rd} {p1_n : Int} {r : Int × GL30Rd} (hS : SH w K (List.filterMap Item.g [obj g1 [.slice a2 n3 c4, .int .i64 p0_r.p_] 135]) w K [obj g1 [.slice a2 n3 c4, .int .i64 p0_r.p_] 135]) (hs5 : SliceAt tU8 K a2 n3 c4 p0_r.b_) (hr6 : rng64 p0_r.p_) (hr7 : rng64 p1_n) (hm : M.spec_l30Rd_pick F p0_r p1_n = some r) :
    Calls Try.prog 56 #[.pointer (some ⟨g1, 0, none⟩), .int .i64 p1_n] w fun e w' => ∃ (a_2 : Option Addr) (n_3 c_4 : Nat) (K' : KMap), e = .returned (.int .i64 r.1) ∧ SH w K (List.filterMap Item.g [obj g1 [.slice a2 n3 c4, .int .i64 p0_r.p_] 135]) w' K' [obj g1 [.slice a_2 n_3 c_4, .int .i64 r.2.p_] 135] ∧ rng64 r.1 ∧ SliceAt tU8 K' a_2 n_3 c_4 r.2.b_ ∧ rng64 r.2.p_ := by
  rw [M.spec_l30Rd_pick] at hm
  refine calls_in Try.func56 rfl Try.ntmps56 rfl ?_
  refine wc_seq ?_
  refine wc_region ?_
  refine wl_val wn rfl (rv_assign (v := .int .i64 0) rfl) ?_
  refine wl_nil ?_
  refine qe_seq ?_
  refine wc_seq ?_
  refine wc_region ?_
  refine wl_val wn rfl (rv_move rfl) ?_
  refine wl_val wn rfl (rv_move rfl) ?_
  refine wl_val wn rfl (rv_nilCheck rfl) ?_
  refine wl_val wn rfl (rv_fieldAddr ff135_1 rfl) ?_
  refine wl_val wn rfl (rv_loadm1 tf3 rfl (.head _) hS rfl) ?_
  refine wl_val wn rfl (rv_add rfl rfl) ?_
  refine wl_val wn rfl (rv_nilCheck rfl) ?_
  refine wl_val wn rfl (rv_fieldAddr ff135_1 rfl) ?_
  refine wl_store (cs' := [.slice a2 n3 c4, .int .i64 (w64 (p0_r.p_ + (1 : Int)))]) (v := .int .i64 (w64 (p0_r.p_ + (1 : Int)))) wn tf3 rfl rfl rfl (by simp [Value.cells, Value.oneCell']) hS rfl rfl ?_
  intro w8 hS9
  refine wl_nil ?_
  refine qe_seq ?_
  refine wc_seq ?_
  refine wc_seq ?_
  obtain ⟨o10, h11, h12⟩ := Option.bind_eq_some_iff.1 hm
  refine wc_cutg (fun E' w' => ∃ (K13 : KMap), E' = [(0, .pointer (some ⟨g1, 0, none⟩)), (1, .int .i64 p1_n), (24, .bool o10)] ∧ SH w K (List.filterMap Item.g [obj g1 [.slice a2 n3 c4, .int .i64 p0_r.p_] 135]) w' K13 [obj g1 [.slice a2 n3 c4, .int .i64 (w64 (p0_r.p_ + (1 : Int)))] 135] ∧ KLe K K13) ?_ ?_
  · refine wc_region ?_
    refine wl_val wn rfl (rv_move rfl) ?_
    refine wl_val wn rfl (rv_lss rfl rfl) ?_
    refine wl_val wn rfl (rv_move rfl) ?_
    rcases bool_tf (decide (p1_n < (1 : Int))) with hb17 | hb17
    · have h18 := cond_t hb17 h11
      refine wl_un (ug rfl rfl hb17) rfl ?_
      refine wl_un (ug rfl rfl hb17) rfl ?_
      refine wl_un (ug rfl rfl hb17) rfl ?_
      refine wl_un (ug rfl rfl hb17) rfl ?_
      refine wl_un (ug rfl rfl hb17) rfl ?_
      refine wl_un (ug rfl rfl hb17) rfl ?_
      refine wl_val wn rfl (rv_pick_t (v := .bool true) rfl hb17 rfl) ?_
      refine wl_nil ?_
      obtain rfl := Option.some.inj h18
      exact qe_mid' ⟨K, rfl, hS9, (KLe.refl _)⟩ ⟨rfl, rfl, rfl, trivial⟩
    · have h18 := cond_f hb17 h11
      refine wl_val (wg rfl rfl hb17) rfl (rv_move rfl) ?_
      refine wl_val (wg rfl rfl hb17) rfl (rv_nilCheck rfl) ?_
      refine wl_val (wg rfl rfl hb17) rfl (rv_fieldAddr ff135_0 rfl) ?_
      refine wl_val (wg rfl rfl hb17) rfl (rv_loadm1 tf33 rfl (.head _) hS9 rfl) ?_
      refine wl_val (wg rfl rfl hb17) rfl (rv_len (t := tU8) Try.underlying33 rfl hs5) ?_
      refine wl_val (wg rfl rfl hb17) rfl (rv_eql rfl rfl) ?_
      refine wl_val wn rfl (rv_pick_f rfl hb17 rfl) ?_
      refine wl_nil ?_
      obtain rfl := Option.some.inj h18
      exact qe_mid' ⟨K, rfl, hS9, (KLe.refl _)⟩ ⟨rfl, rfl, rfl, trivial⟩
  · rintro _ w15 ⟨K13, rfl, hS16, hl14⟩
    refine qe_seq ?_
    refine wc_cond rfl (fun hb19 => ?_) (fun hb19 => ?_)
    · have h20 := cond_t hb19 h12
      refine wc_seq ?_
      refine wc_region ?_
      refine wl_val wn rfl (rv_assign (v := .int .i64 0) rfl) ?_
      refine wl_nil ?_
      refine qe_seq ?_
      refine wc_ret ?_
      refine qe_then_ret ?_
      obtain rfl := Option.some.inj h20
      exact qe_ret (vs := [_]) Try.results56 ⟨rfl, trivial⟩ ⟨a2, n3, c4, K13, rfl, hS16, (by decide : rng64 0), (SliceAt.mono hl14 hs5), (w64_rng _)⟩
    · have h20 := cond_f hb19 h12
      refine wc_skip ?_
      refine qe_seq ?_
      refine wc_seq ?_
      refine wc_region ?_
      refine wl_val wn rfl (rv_move rfl) ?_
      refine wl_val wn rfl (rv_nilCheck rfl) ?_
      refine wl_val wn rfl (rv_fieldAddr ff135_1 rfl) ?_
      refine wl_val wn rfl (rv_loadm1 tf3 rfl (.head _) hS16 rfl) ?_
      refine wl_val wn rfl (rv_sub rfl rfl) ?_
      refine wl_val wn rfl (rv_assign rfl) ?_
      refine wl_nil ?_
      refine qe_seq ?_
      refine wc_seq ?_
      refine wc_seq ?_
      refine wc_region ?_
      refine wl_val wn rfl (rv_move rfl) ?_
      refine wl_val wn rfl (rv_move rfl) ?_
      refine wl_val wn rfl (rv_nilCheck rfl) ?_
      refine wl_val wn rfl (rv_fieldAddr ff135_0 rfl) ?_
      refine wl_val wn rfl (rv_loadm1 tf33 rfl (.head _) hS16 rfl) ?_
      refine wl_val wn rfl (rv_len (t := tU8) Try.underlying33 rfl (SliceAt.mono hl14 hs5)) ?_
      refine wl_val wn rfl (rv_lss rfl rfl) ?_
      refine wl_nil ?_
      refine qe_seq ?_
      refine wc_cond rfl (fun hb21 => ?_) (fun hb21 => ?_)
      · have h22 := cond_t hb21 h20
        refine wc_seq ?_
        refine wc_region ?_
        refine wl_val wn rfl (rv_move rfl) ?_
        refine wl_val wn rfl (rv_nilCheck rfl) ?_
        refine wl_val wn rfl (rv_fieldAddr ff135_0 rfl) ?_
        refine wl_val wn rfl (rv_loadm1 tf33 rfl (.head _) hS16 rfl) ?_
        refine wl_val wn rfl (rv_move rfl) ?_
        obtain ⟨x23, hx24, h25⟩ := Option.bind_eq_some_iff.1 h22
        refine wl_indexAddr (t := tU8) wn rfl Try.underlying33 tf5 rfl rfl (SliceAt.mono hl14 hs5) hx24 ?_
        intro b26 o27 u28 hu29 ha30
        obtain rfl := hu29
        have ha31 : AtK _ b26 o27 [iv8 x23] := ha30
        refine wl_val wn rfl (rv_load1 tf5 rfl hS16 (ha31 0 _ rfl)) ?_
        refine wl_val wn rfl (rv_b2i Try.underlying5 Try.underlying3 rfl) ?_
        refine wl_val wn rfl (rv_move rfl) ?_
        obtain ⟨x32, hx33, h34⟩ := Option.bind_eq_some_iff.1 h25
        refine wl_val wn rfl (rv_rem rfl rfl hx33) ?_
        refine wl_val wn rfl (rv_assign rfl) ?_
        refine wl_nil ?_
        refine qe_seq ?_
        refine wc_ret ?_
        refine qe_then_ret ?_
        obtain rfl := Option.some.inj h34
        exact qe_ret (vs := [_]) Try.results56 ⟨rfl, trivial⟩ ⟨a2, n3, c4, K13, rfl, hS16, (rng_rem (rng_u8 _) hx33), (SliceAt.mono hl14 hs5), (w64_rng _)⟩
      · have h22 := cond_f hb21 h20
        refine wc_skip ?_
        refine qe_seq ?_
        refine wc_seq ?_
        refine wc_quiet mixed (by kernel_rfl) hS16 ?_
        refine wq_val wn rfl (fun _ _ => (rv_move rfl)) ?_
        refine wq_val wn rfl (fun _ _ => (rv_nilCheck rfl)) ?_
        refine wq_val wn rfl (fun _ _ => (rv_fieldAddr ff135_0 rfl)) ?_
        refine wq_val wn rfl (rq_loadm1 tf33 rfl (.head _) rfl) ?_
        refine wq_val wn rfl (fun _ _ => (rv_move rfl)) ?_
        refine wq_val wn rfl (fun _ _ => (rv_move rfl)) ?_
        refine wq_val wn rfl (fun _ _ => (rv_nilCheck rfl)) ?_
        refine wq_val wn rfl (fun _ _ => (rv_fieldAddr ff135_0 rfl)) ?_
        refine wq_val wn rfl (rq_loadm1 tf33 rfl (.head _) rfl) ?_
        refine wq_val wn rfl (fun _ _ => (rv_len (t := tU8) Try.underlying33 rfl (SliceAt.mono hl14 hs5))) ?_
        obtain ⟨x35, hx36, h37⟩ := Option.bind_eq_some_iff.1 h22
        refine wq_val wn rfl (fun _ _ => (rv_rem rfl rfl hx36)) ?_
        obtain ⟨x38, hx39, h40⟩ := Option.bind_eq_some_iff.1 h37
        refine wq_indexAddr (t := tU8) wn rfl Try.underlying33 tf5 rfl rfl (SliceAt.mono hl14 hs5) hx39 ?_
        intro b41 o42 u43 hu44 ha45
        obtain rfl := hu44
        have ha46 : AtK _ b41 o42 [iv8 x38] := ha45
        refine wq_val wn rfl (rq_load1 tf5 rfl (ha46 0 _ rfl)) ?_
        refine wq_val wn rfl (fun _ _ => (rv_b2i Try.underlying5 Try.underlying3 rfl)) ?_
        refine wq_val wn rfl (fun _ _ => (rv_mul rfl rfl)) ?_
        refine wq_val wn rfl (fun _ _ => (rv_move rfl)) ?_
        refine wq_val wn rfl (fun _ _ => (rv_nilCheck rfl)) ?_
        refine wq_val wn rfl (fun _ _ => (rv_fieldAddr ff135_0 rfl)) ?_
        refine wq_val wn rfl (rq_loadm1 tf33 rfl (.head _) rfl) ?_
        refine wq_val wn rfl (fun _ _ => (rv_move rfl)) ?_
        refine wq_val wn rfl (fun _ _ => (rv_mul rfl rfl)) ?_
        refine wq_val wn rfl (fun _ _ => (rv_add rfl rfl)) ?_
        refine wq_val wn rfl (fun _ _ => (rv_move rfl)) ?_
        refine wq_val wn rfl (fun _ _ => (rv_nilCheck rfl)) ?_
        refine wq_val wn rfl (fun _ _ => (rv_fieldAddr ff135_0 rfl)) ?_
        refine wq_val wn rfl (rq_loadm1 tf33 rfl (.head _) rfl) ?_
        refine wq_val wn rfl (fun _ _ => (rv_len (t := tU8) Try.underlying33 rfl (SliceAt.mono hl14 hs5))) ?_
        obtain ⟨x47, hx48, h49⟩ := Option.bind_eq_some_iff.1 h40
        refine wq_val wn rfl (fun _ _ => (rv_rem rfl rfl hx48)) ?_
        obtain ⟨x50, hx51, h52⟩ := Option.bind_eq_some_iff.1 h49
        refine wq_indexAddr (t := tU8) wn rfl Try.underlying33 tf5 rfl rfl (SliceAt.mono hl14 hs5) hx51 ?_
        intro b53 o54 u55 hu56 ha57
        obtain rfl := hu56
        have ha58 : AtK _ b53 o54 [iv8 x50] := ha57
        refine wq_val wn rfl (rq_load1 tf5 rfl (ha58 0 _ rfl)) ?_
        refine wq_val wn rfl (fun _ _ => (rv_b2i Try.underlying5 Try.underlying3 rfl)) ?_
        refine wq_val wn rfl (fun _ _ => (rv_mul rfl rfl)) ?_
        refine wq_val wn rfl (fun _ _ => (rv_add rfl rfl)) ?_
        refine wq_val wn rfl (fun _ _ => (rv_move rfl)) ?_
        refine wq_val wn rfl (fun _ _ => (rv_mul rfl rfl)) ?_
        refine wq_val wn rfl (fun _ _ => (rv_add rfl rfl)) ?_
        refine wq_val wn rfl (fun _ _ => (rv_move rfl)) ?_
        refine wq_val wn rfl (fun _ _ => (rv_move rfl)) ?_
        refine wq_val wn rfl (fun _ _ => (rv_nilCheck rfl)) ?_
        refine wq_val wn rfl (fun _ _ => (rv_fieldAddr ff135_0 rfl)) ?_
        refine wq_val wn rfl (rq_loadm1 tf33 rfl (.head _) rfl) ?_
        refine wq_val wn rfl (fun _ _ => (rv_len (t := tU8) Try.underlying33 rfl (SliceAt.mono hl14 hs5))) ?_
        obtain ⟨x59, hx60, h61⟩ := Option.bind_eq_some_iff.1 h52
        refine wq_val wn rfl (fun _ _ => (rv_quo rfl rfl hx60)) ?_
        refine wq_val wn rfl (fun _ _ => (rv_mul rfl rfl)) ?_
        refine wq_val wn rfl (fun _ _ => (rv_add rfl rfl)) ?_
        obtain ⟨x62, hx63, h64⟩ := Option.bind_eq_some_iff.1 h61
        have e65 := Option.some.inj hx63
        refine wq_val wn rfl (fun _ _ => (rv_as rfl (congrArg (Value.int .i64) e65))) ?_
        refine wq_nil ?_
        rintro w67 ⟨K66, hS68, hl69⟩
        refine qe_seq ?_
        refine wc_seq ?_
        refine wc_region ?_
        refine wl_val wn rfl (rv_move rfl) ?_
        refine wl_val wn rfl (rv_move rfl) ?_
        obtain ⟨x70, hx71, h72⟩ := Option.bind_eq_some_iff.1 h64
        refine wl_val wn rfl (rv_quo rfl rfl hx71) ?_
        refine wl_val wn rfl (rv_xor rfl rfl) ?_
        refine wl_val wn rfl (rv_assign rfl) ?_
        refine wl_nil ?_
        refine qe_seq ?_
        refine wc_seq ?_
        refine wc_region ?_
        refine wl_val wn rfl (rv_move rfl) ?_
        refine wl_val wn rfl (rv_move rfl) ?_
        obtain ⟨x73, hx74, h75⟩ := Option.bind_eq_some_iff.1 h72
        refine wl_val wn rfl (rv_rem rfl rfl hx74) ?_
        refine wl_val wn rfl (rv_assign rfl) ?_
        refine wl_nil ?_
        refine qe_seq ?_
        refine wc_ret ?_
        obtain rfl := Option.some.inj h75
        exact qe_ret (vs := [_]) Try.results56 ⟨rfl, trivial⟩ ⟨a2, n3, c4, K66, rfl, hS68, (rng_rem (w64_rng _) hx74), (SliceAt.mono (hl14.trans hl69) hs5), (w64_rng _)⟩

theorem ok_spec_l30Rd_of (F : Nat) {w : World} {K : KMap} {g1 : Nat} {a2 : Option Addr} {n3 c4 : Nat} {a7 : Option Addr} {n8 c9 : Nat} {p0_r : GL30Rd} {p1_list : List Str} {r : Str × GL30Rd} (hS : SH w K (List.filterMap Item.g [obj g1 [.slice a2 n3 c4, .int .i64 p0_r.p_] 135]) w K [obj g1 [.slice a2 n3 c4, .int .i64 p0_r.p_] 135]) (hs5 : SliceAt tU8 K a2 n3 c4 p0_r.b_) (hr6 : rng64 p0_r.p_) (hs10 : SliceAt tStr K a7 n8 c9 p1_list) (hm : M.spec_l30Rd_of F p0_r p1_list = some r) :
    Calls Try.prog 105 #[.pointer (some ⟨g1, 0, none⟩), .slice a7 n8 c9] w fun e w' => ∃ (a_2 : Option Addr) (n_3 c_4 : Nat) (K' : KMap), e = .returned (sv r.1) ∧ SH w K (List.filterMap Item.g [obj g1 [.slice a2 n3 c4, .int .i64 p0_r.p_] 135]) w' K' [obj g1 [.slice a_2 n_3 c_4, .int .i64 r.2.p_] 135] ∧ r.1.length ≤ maxLen ∧ SliceAt tU8 K' a_2 n_3 c_4 r.2.b_ ∧ rng64 r.2.p_ := by
  rw [M.spec_l30Rd_of] at hm
  refine calls_in Try.func105 rfl Try.ntmps105 rfl ?_
  refine wc_seq ?_
  refine wc_region ?_
  refine wl_val wn rfl (rv_assign (v := sv []) rfl) ?_
  refine wl_nil ?_
  refine qe_seq ?_
  refine wc_seq ?_
  refine wc_region ?_
  refine wl_val wn rfl (rv_move rfl) ?_
  refine wl_val wn rfl (rv_move rfl) ?_
  refine wl_val wn rfl (rv_move rfl) ?_
  refine wl_val wn rfl (rv_len (t := tStr) Try.underlying47 rfl hs10) ?_
  obtain ⟨r11, hx12, h13⟩ := Option.bind_eq_some_iff.1 hm
  refine wl_call wn rfl (rt_call (vs := [.pointer (some ⟨g1, 0, none⟩), .int .i64 (p1_list.length : Int)]) co56 rfl) ((ok_spec_l30Rd_pick F) (SH.enter (Lin := [_]) hS) hs5 hr6 (rng_nat (SliceAt.max hs10)) hx12) ?_
  rintro e23 w15 ⟨a18, n19, c20, K14, rfl, hS16, hr17, hs21, hr22⟩
  refine ⟨_, rfl, ?_⟩
  have hS24 : SH _ _ _ _ _ [_] := SH.call (Lin := [_]) hS hS16
  obtain ⟨x25, hx26, h27⟩ := Option.bind_eq_some_iff.1 h13
  refine wl_indexAddr (t := tStr) wn rfl Try.underlying47 tf9 rfl rfl (SliceAt.mono hS16.le hs10) hx26 ?_
  intro b28 o29 u30 hu31 ha32
  obtain ⟨rfl, hl33⟩ := hu31
  have ha34 : AtK _ b28 o29 [sv x25] := ha32
  refine wl_val wn rfl (rv_load1 tf9 rfl hS24 (ha34 0 _ rfl)) ?_
  refine wl_val wn rfl (rv_assign rfl) ?_
  refine wl_nil ?_
  refine qe_seq ?_
  refine wc_ret ?_
  obtain rfl := Option.some.inj h27
  exact qe_ret (vs := [_]) Try.results105 ⟨rfl, trivial⟩ ⟨a18, n19, c20, K14, rfl, hS24, hl33, hs21, hr22⟩

theorem ok_spec_l7Put (F : Nat) {w : World} {K : KMap} {a1 : Option Addr} {n2 c3 : Nat} {p0_list : List Str} {p1_s : Str} {r : (List Str)} (hS : SH w K (List.filterMap Item.g [tail (.slice a1 n2 c3) 9 1]) w K [tail (.slice a1 n2 c3) 9 1]) (hs4 : SliceAt tStr K a1 n2 c3 p0_list) (hl5 : p1_s.length ≤ maxLen) (hm : M.spec_l7Put F p0_list p1_s = some r) :
    Calls Try.prog 129 #[.slice a1 n2 c3, sv p1_s] w fun e w' => ∃ (a_1 : Option Addr) (n_2 c_3 : Nat) (K' : KMap), e = .returned (.slice a_1 n_2 c_3) ∧ SH w K (List.filterMap Item.g [tail (.slice a1 n2 c3) 9 1]) w' K' [tail (.slice a_1 n_2 c_3) 9 1] ∧ SliceAt tStr K' a_1 n_2 c_3 r := by
  rw [M.spec_l7Put] at hm
  refine calls_in Try.func129 rfl Try.ntmps129 rfl ?_
  refine wc_seq ?_
  refine wc_region ?_
  refine wl_val wn rfl (rv_assign (v := .slice none 0 0) rfl) ?_
  refine wl_nil ?_
  refine qe_seq ?_
  refine wc_seq ?_
  refine wc_region ?_
  refine wl_val wn rfl (rv_assign (v := .int .i64 0) rfl) ?_
  refine wl_nil ?_
  refine qe_seq ?_
  refine wc_seq ?_
  obtain ⟨o6, h7, h8⟩ := Option.bind_eq_some_iff.1 hm
  refine wc_cutg (fun E' w' => ∃ (K9 : KMap), E' = [(0, .slice a1 n2 c3), (1, sv p1_s), (5, .int .i64 o6)] ∧ SH w K (List.filterMap Item.g [tail (.slice a1 n2 c3) 9 1]) w' K9 [tail (.slice a1 n2 c3) 9 1] ∧ KLe K K9 ∧ rng64 o6) ?_ ?_
  · refine wc_block ?_
    obtain ⟨r15, h16, h17⟩ := Option.bind_eq_some_iff.1 h7
    refine wc_while' (fun (s14 : Int) E' w' => ∃ (K18 : KMap), E' = [(0, .slice a1 n2 c3), (1, sv p1_s), (5, .int .i64 s14)] ∧ SH w K (List.filterMap Item.g [tail (.slice a1 n2 c3) 9 1]) w' K18 [tail (.slice a1 n2 c3) 9 1] ∧ KLe K K18 ∧ rng64 s14) h16 ⟨K, rfl, hS, (KLe.refl _), (by decide : rng64 0)⟩ ⟨rfl, rfl, rfl, trivial⟩ ?_
    rintro s14 _ w20 r23 h24 hx25 ⟨K18, rfl, hS21, hl19, hr22⟩
    refine wc_seq ?_
    refine wc_seq ?_
    obtain ⟨o26, h27, h28⟩ := Option.bind_eq_some_iff.1 h24
    refine wc_cutg (fun E' w' => ∃ (K29 : KMap), E' = [(0, .slice a1 n2 c3), (1, sv p1_s), (5, .int .i64 s14), (18, .bool o26)] ∧ SH w K (List.filterMap Item.g [tail (.slice a1 n2 c3) 9 1]) w' K29 [tail (.slice a1 n2 c3) 9 1] ∧ KLe K18 K29) ?_ ?_
    · refine wc_region ?_
      refine wl_val wn rfl (rv_move rfl) ?_
      refine wl_val wn rfl (rv_move rfl) ?_
      refine wl_val wn rfl (rv_len (t := tStr) Try.underlying47 rfl (SliceAt.mono hl19 hs4)) ?_
      refine wl_val wn rfl (rv_lss rfl rfl) ?_
      refine wl_val wn rfl (rv_move rfl) ?_
      rcases bool_tf (decide (s14 < (p0_list.length : Int))) with hb33 | hb33
      · have h34 := cond_t hb33 h27
        refine wl_val (wg rfl rfl hb33) rfl (rv_move rfl) ?_
        refine wl_val (wg rfl rfl hb33) rfl (rv_move rfl) ?_
        obtain ⟨x35, hx36, h37⟩ := Option.bind_eq_some_iff.1 h34
        refine wl_indexAddr (t := tStr) (wg rfl rfl hb33) rfl Try.underlying47 tf9 rfl rfl (SliceAt.mono hl19 hs4) hx36 ?_
        intro b38 o39 u40 hu41 ha42
        obtain ⟨rfl, hl43⟩ := hu41
        have ha44 : AtK _ b38 o39 [sv x35] := ha42
        refine wl_val (wg rfl rfl hb33) rfl (rv_load1 tf9 rfl hS21 (ha44 0 _ rfl)) ?_
        refine wl_val (wg rfl rfl hb33) rfl (rv_move rfl) ?_
        refine wl_val (wg rfl rfl hb33) rfl (rv_slss rfl rfl) ?_
        refine wl_val wn rfl (rv_pick_t rfl hb33 rfl) ?_
        refine wl_nil ?_
        obtain rfl := Option.some.inj h37
        exact qe_mid' ⟨K18, rfl, hS21, (KLe.refl _)⟩ ⟨rfl, rfl, rfl, rfl, trivial⟩
      · have h34 := cond_f hb33 h27
        refine wl_un (ug rfl rfl hb33) rfl ?_
        refine wl_un (ug rfl rfl hb33) rfl ?_
        refine wl_un (ug rfl rfl hb33) rfl ?_
        refine wl_un (ug rfl rfl hb33) rfl ?_
        refine wl_un (ug rfl rfl hb33) rfl ?_
        refine wl_un (ug rfl rfl hb33) rfl ?_
        refine wl_val wn rfl (rv_pick_f (v := .bool false) rfl hb33 rfl) ?_
        refine wl_nil ?_
        obtain rfl := Option.some.inj h34
        exact qe_mid' ⟨K18, rfl, hS21, (KLe.refl _)⟩ ⟨rfl, rfl, rfl, rfl, trivial⟩
    · rintro _ w31 ⟨K29, rfl, hS32, hl30⟩
      refine qe_seq ?_
      refine wc_cond rfl (fun hb45 => ?_) (fun hb45 => ?_)
      · have h46 := cond_t hb45 h28
        refine wc_skip ?_
        refine qe_seq ?_
        refine wc_block ?_
        refine wc_region ?_
        refine wl_val wn rfl (rv_move rfl) ?_
        refine wl_val wn rfl (rv_add rfl rfl) ?_
        refine wl_val wn rfl (rv_assign rfl) ?_
        refine wl_nil ?_
        refine qe_block ?_
        obtain rfl := Option.some.inj h46
        exact qe_mid' ⟨_, rfl, K29, rfl, hS32, (hl19.trans hl30), (w64_rng _)⟩ ⟨rfl, rfl, rfl, trivial⟩
      · have h46 := cond_f hb45 h28
        refine wc_exit ?_
        refine qe_then_exit ?_
        refine qe_then_exit ?_
        obtain rfl := Option.some.inj h46
        have e47 := hx25 _ rfl
        subst e47
        refine qe_block_eq ?_
        obtain rfl := Option.some.inj h17
        exact qe_mid' ⟨K29, rfl, hS32, (hl19.trans hl30), hr22⟩ ⟨rfl, rfl, rfl, trivial⟩
  · rintro _ w11 ⟨K9, rfl, hS12, hl10, hr13⟩
    refine qe_seq ?_
    refine wc_seq ?_
    refine wc_seq ?_
    obtain ⟨o48, h49, h50⟩ := Option.bind_eq_some_iff.1 h8
    refine wc_cutg (fun E' w' => ∃ (K51 : KMap), E' = [(0, .slice a1 n2 c3), (1, sv p1_s), (5, .int .i64 o6), (32, .bool o48)] ∧ SH w K (List.filterMap Item.g [tail (.slice a1 n2 c3) 9 1]) w' K51 [tail (.slice a1 n2 c3) 9 1] ∧ KLe K9 K51) ?_ ?_
    · refine wc_region ?_
      refine wl_val wn rfl (rv_move rfl) ?_
      refine wl_val wn rfl (rv_move rfl) ?_
      refine wl_val wn rfl (rv_len (t := tStr) Try.underlying47 rfl (SliceAt.mono hl10 hs4)) ?_
      refine wl_val wn rfl (rv_lss rfl rfl) ?_
      refine wl_val wn rfl (rv_move rfl) ?_
      rcases bool_tf (decide (o6 < (p0_list.length : Int))) with hb55 | hb55
      · have h56 := cond_t hb55 h49
        refine wl_val (wg rfl rfl hb55) rfl (rv_move rfl) ?_
        refine wl_val (wg rfl rfl hb55) rfl (rv_move rfl) ?_
        obtain ⟨x57, hx58, h59⟩ := Option.bind_eq_some_iff.1 h56
        refine wl_indexAddr (t := tStr) (wg rfl rfl hb55) rfl Try.underlying47 tf9 rfl rfl (SliceAt.mono hl10 hs4) hx58 ?_
        intro b60 o61 u62 hu63 ha64
        obtain ⟨rfl, hl65⟩ := hu63
        have ha66 : AtK _ b60 o61 [sv x57] := ha64
        refine wl_val (wg rfl rfl hb55) rfl (rv_load1 tf9 rfl hS12 (ha66 0 _ rfl)) ?_
        refine wl_val (wg rfl rfl hb55) rfl (rv_move rfl) ?_
        refine wl_val (wg rfl rfl hb55) rfl (rv_seql rfl rfl) ?_
        refine wl_val wn rfl (rv_pick_t rfl hb55 rfl) ?_
        refine wl_nil ?_
        obtain rfl := Option.some.inj h59
        exact qe_mid' ⟨K9, rfl, hS12, (KLe.refl _)⟩ ⟨rfl, rfl, rfl, rfl, trivial⟩
      · have h56 := cond_f hb55 h49
        refine wl_un (ug rfl rfl hb55) rfl ?_
        refine wl_un (ug rfl rfl hb55) rfl ?_
        refine wl_un (ug rfl rfl hb55) rfl ?_
        refine wl_un (ug rfl rfl hb55) rfl ?_
        refine wl_un (ug rfl rfl hb55) rfl ?_
        refine wl_un (ug rfl rfl hb55) rfl ?_
        refine wl_val wn rfl (rv_pick_f (v := .bool false) rfl hb55 rfl) ?_
        refine wl_nil ?_
        obtain rfl := Option.some.inj h56
        exact qe_mid' ⟨K9, rfl, hS12, (KLe.refl _)⟩ ⟨rfl, rfl, rfl, rfl, trivial⟩
    · rintro _ w53 ⟨K51, rfl, hS54, hl52⟩
      refine qe_seq ?_
      refine wc_cond rfl (fun hb67 => ?_) (fun hb67 => ?_)
      · have h68 := cond_t hb67 h50
        refine wc_seq ?_
        refine wc_region ?_
        refine wl_val wn rfl (rv_move rfl) ?_
        refine wl_val wn rfl (rv_assign rfl) ?_
        refine wl_nil ?_
        refine qe_seq ?_
        refine wc_ret ?_
        refine qe_then_ret ?_
        obtain rfl := Option.some.inj h68
        exact qe_ret (vs := [_]) Try.results129 ⟨rfl, trivial⟩ ⟨a1, n2, c3, K51, rfl, hS54, (SliceAt.mono (hl10.trans hl52) hs4)⟩
      · have h68 := cond_f hb67 h50
        refine wc_skip ?_
        refine qe_seq ?_
        refine wc_seq ?_
        refine wc_region ?_
        refine wl_buildSlice0 tStr wn rfl Try.underlying47 tf9 hS54 ?_
        intro a69 w70 K71 hl72 hs73 hS74
        refine wl_val wn rfl (rv_move rfl) ?_
        refine wl_val wn rfl (rv_move rfl) ?_
        obtain ⟨x75, hx76, h77⟩ := Option.bind_eq_some_iff.1 h68
        refine wl_sl_h (t := tStr) wn rfl Try.underlying47 tf9 rfl rfl (SliceAt.mono ((hl10.trans hl52).trans hl72) hs4) hx76 ?_
        intro a78 n79 c80 hs81
        obtain ⟨x82, hx83, h84⟩ := Option.bind_eq_some_iff.1 h77
        refine wl_append (t := tStr) wn rfl Try.underlying47 tf9 rfl rfl rfl rfl rfl hs73 hs81 hx83 hS74 ?_
        intro a85 n86 c87 w88 K89 hl90 hs91 hS92
        refine wl_val wn rfl (rv_assign rfl) ?_
        refine wl_nil ?_
        refine qe_seq ?_
        refine wc_seq ?_
        refine wc_region ?_
        refine wl_val wn rfl (rv_move rfl) ?_
        refine wl_val wn rfl (rv_move rfl) ?_
        refine wl_buildSlice (t := tStr) (n := 1) (pv := [(0, sv p1_s)]) (cs := [sv p1_s]) (xs := [p1_s]) wn rfl Try.underlying47 tf9 rfl rfl rfl (by kernel_rfl) rfl rfl (lit_cons (u := sv p1_s) (z := p1_s) ⟨rfl, hl5⟩ lit_nil) hS92 ?_
        intro a93 w94 K95 hl96 hs97 hS98
        have hS99 : SH _ _ _ _ _ [_, _, _] := SH.front (p := [_]) hS98
        obtain ⟨x100, hx101, h102⟩ := Option.bind_eq_some_iff.1 h84
        refine wl_append (t := tStr) wn rfl Try.underlying47 tf9 rfl rfl rfl rfl rfl (SliceAt.mono hl96 hs91) hs97 hx101 hS99 ?_
        intro a103 n104 c105 w106 K107 hl108 hs109 hS110
        refine wl_val wn rfl (rv_assign rfl) ?_
        refine wl_nil ?_
        refine qe_seq ?_
        refine wc_seq ?_
        refine wc_region ?_
        refine wl_val wn rfl (rv_move rfl) ?_
        refine wl_val wn rfl (rv_move rfl) ?_
        refine wl_val wn rfl (rv_move rfl) ?_
        obtain ⟨x111, hx112, h113⟩ := Option.bind_eq_some_iff.1 h102
        refine wl_sl_l (t := tStr) wn rfl Try.underlying47 tf9 rfl rfl (SliceAt.mono (((((hl10.trans hl52).trans hl72).trans hl90).trans hl96).trans hl108) hs4) hx112 ?_
        intro a114 n115 c116 hs117
        obtain ⟨x118, hx119, h120⟩ := Option.bind_eq_some_iff.1 h113
        refine wl_append (t := tStr) wn rfl Try.underlying47 tf9 rfl rfl rfl rfl rfl hs109 hs117 hx119 hS110 ?_
        intro a121 n122 c123 w124 K125 hl126 hs127 hS128
        refine wl_val wn rfl (rv_assign rfl) ?_
        refine wl_nil ?_
        refine qe_seq ?_
        refine wc_ret ?_
        obtain rfl := Option.some.inj h120
        have hS129 : SH _ _ _ _ _ [_] := SH.sublist hS128 (.cons_cons _ (.cons _ (.cons _ .slnil)))
        exact qe_ret (vs := [_]) Try.results129 ⟨rfl, trivial⟩ ⟨a121, n122, c123, K125, rfl, hS129, hs127⟩

theorem ok_spec_l30Words (F : Nat) {w : World} {K : KMap} {g1 : Nat} {a2 : Option Addr} {n3 c4 : Nat} {p0_r : GL30Rd} {r : (List Str) × GL30Rd} (hS : SH w K (List.filterMap Item.g [obj g1 [.slice a2 n3 c4, .int .i64 p0_r.p_] 135]) w K [obj g1 [.slice a2 n3 c4, .int .i64 p0_r.p_] 135]) (hs5 : SliceAt tU8 K a2 n3 c4 p0_r.b_) (hr6 : rng64 p0_r.p_) (hm : M.spec_l30Words F p0_r = some r) :
    Calls Try.prog 104 #[.pointer (some ⟨g1, 0, none⟩)] w fun e w' => ∃ (a_1 : Option Addr) (n_2 c_3 : Nat) (a_5 : Option Addr) (n_6 c_7 : Nat) (K' : KMap), e = .returned (.slice a_1 n_2 c_3) ∧ SH w K (List.filterMap Item.g [obj g1 [.slice a2 n3 c4, .int .i64 p0_r.p_] 135]) w' K' [tail (.slice a_1 n_2 c_3) 9 1, obj g1 [.slice a_5 n_6 c_7, .int .i64 r.2.p_] 135] ∧ SliceAt tStr K' a_1 n_2 c_3 r.1 ∧ SliceAt tU8 K' a_5 n_6 c_7 r.2.b_ ∧ rng64 r.2.p_ := by
  rw [M.spec_l30Words] at hm
  refine calls_in Try.func104 rfl Try.ntmps104 rfl ?_
  refine wc_seq ?_
  refine wc_region ?_
  refine wl_val wn rfl (rv_assign (v := .slice none 0 0) rfl) ?_
  refine wl_nil ?_
  refine qe_seq ?_
  refine wc_seq ?_
  refine wc_region ?_
  refine wl_buildSlice0 tStr wn rfl Try.underlying47 tf9 hS ?_
  intro a7 w8 K9 hl10 hs11 hS12
  refine wl_val wn rfl (rv_assign rfl) ?_
  refine wl_nil ?_
  refine qe_seq ?_
  refine wc_seq ?_
  refine wc_seq ?_
  refine wc_region ?_
  refine wl_val wn rfl (rv_move rfl) ?_
  obtain ⟨r13, hx14, h15⟩ := Option.bind_eq_some_iff.1 hm
  have hS16 : SH _ _ _ _ _ [_, _] := SH.front (p := [_]) hS12
  refine wl_call wn rfl (rt_call (vs := [.pointer (some ⟨g1, 0, none⟩), .int .i64 9]) co56 rfl) ((ok_spec_l30Rd_pick F) (SH.enter (Lin := [_]) hS16) (SliceAt.mono hl10 hs5) hr6 (by decide : rng64 9) hx14) ?_
  rintro e26 w18 ⟨a21, n22, c23, K17, rfl, hS19, hr20, hs24, hr25⟩
  refine ⟨_, rfl, ?_⟩
  have hS27 : SH _ _ _ _ _ [_, _] := SH.call (Lin := [_]) hS16 hS19
  refine wl_val wn rfl (rv_assign rfl) ?_
  refine wl_nil ?_
  refine qe_seq ?_
  obtain ⟨o28, h29, h30⟩ := Option.bind_eq_some_iff.1 h15
  refine wc_cutg (fun E' w' => ∃ (a35 : Option Addr) (n36 c37 : Nat) (a39 : Option Addr) (n40 c41 : Nat) (K31 : KMap), E' = [(0, .pointer (some ⟨g1, 0, none⟩)), (3, .slice a35 n36 c37)] ∧ SH w K (List.filterMap Item.g [obj g1 [.slice a2 n3 c4, .int .i64 p0_r.p_] 135]) w' K31 [obj g1 [.slice a39 n40 c41, .int .i64 o28.2.p_] 135, tail (.slice a35 n36 c37) 9 1] ∧ KLe K17 K31 ∧ SliceAt tStr K31 a35 n36 c37 o28.1 ∧ SliceAt tU8 K31 a39 n40 c41 o28.2.b_ ∧ rng64 o28.2.p_) ?_ ?_
  · refine wc_block ?_
    obtain ⟨r45, h46, h47⟩ := Option.bind_eq_some_iff.1 h29
    refine wc_while' (fun (s44 : (List Str) × Int × GL30Rd) E' w' => ∃ (a52 : Option Addr) (n53 c54 : Nat) (a57 : Option Addr) (n58 c59 : Nat) (K48 : KMap), E' = [(0, .pointer (some ⟨g1, 0, none⟩)), (3, .slice a52 n53 c54), (4, .int .i64 s44.2.1)] ∧ SH w K (List.filterMap Item.g [obj g1 [.slice a2 n3 c4, .int .i64 p0_r.p_] 135]) w' K48 [obj g1 [.slice a57 n58 c59, .int .i64 s44.2.2.p_] 135, tail (.slice a52 n53 c54) 9 1] ∧ KLe K17 K48 ∧ SliceAt tStr K48 a52 n53 c54 s44.1 ∧ rng64 s44.2.1 ∧ SliceAt tU8 K48 a57 n58 c59 s44.2.2.b_ ∧ rng64 s44.2.2.p_) h46 ⟨a7, 0, 0, a21, n22, c23, K17, rfl, hS27, (KLe.refl _), (SliceAt.mono hS19.le hs11), hr20, hs24, hr25⟩ ⟨rfl, rfl, rfl, trivial⟩ ?_
    rintro s44 _ w50 r62 h63 hx64 ⟨a52, n53, c54, a57, n58, c59, K48, rfl, hS51, hl49, hs55, hr56, hs60, hr61⟩
    refine wc_seq ?_
    refine wc_seq ?_
    refine wc_region ?_
    refine wl_val wn rfl (rv_move rfl) ?_
    refine wl_val wn rfl (rv_gtr rfl rfl) ?_
    refine wl_nil ?_
    refine qe_seq ?_
    refine wc_cond rfl (fun hb65 => ?_) (fun hb65 => ?_)
    · have h66 := cond_t hb65 h63
      refine wc_skip ?_
      refine qe_seq ?_
      refine wc_seq ?_
      refine wc_block ?_
      refine wc_region ?_
      refine wl_val wn rfl (rv_move rfl) ?_
      refine wl_val wn rfl (rv_move rfl) ?_
      refine wl_buildSlice (t := tStr) (n := 13) (pv := [(0, sv [97]), (1, sv [99, 97, 116]), (2, sv [99, 97, 116, 115]), (3, sv [99, 97, 114]), (4, sv [99, 97, 114, 115]), (5, sv [100, 111, 103]), (6, sv [100, 111, 103, 115]), (7, sv [100, 111]), (8, sv [116, 97, 112]), (9, sv [116, 97, 112, 115]), (10, sv [116, 111, 112]), (11, sv [116, 111, 112, 115]), (12, sv [114, 117, 110])]) (cs := [sv [97], sv [99, 97, 116], sv [99, 97, 116, 115], sv [99, 97, 114], sv [99, 97, 114, 115], sv [100, 111, 103], sv [100, 111, 103, 115], sv [100, 111], sv [116, 97, 112], sv [116, 97, 112, 115], sv [116, 111, 112], sv [116, 111, 112, 115], sv [114, 117, 110]]) (xs := [([97] : Str), ([99, 97, 116] : Str), ([99, 97, 116, 115] : Str), ([99, 97, 114] : Str), ([99, 97, 114, 115] : Str), ([100, 111, 103] : Str), ([100, 111, 103, 115] : Str), ([100, 111] : Str), ([116, 97, 112] : Str), ([116, 97, 112, 115] : Str), ([116, 111, 112] : Str), ([116, 111, 112, 115] : Str), ([114, 117, 110] : Str)]) wn rfl Try.underlying47 tf9 rfl rfl rfl (by kernel_rfl) rfl rfl (lit_cons (u := sv [97]) (z := ([97] : Str)) ⟨rfl, (by decide : ([97] : Str).length ≤ maxLen)⟩ (lit_cons (u := sv [99, 97, 116]) (z := ([99, 97, 116] : Str)) ⟨rfl, (by decide : ([99, 97, 116] : Str).length ≤ maxLen)⟩ (lit_cons (u := sv [99, 97, 116, 115]) (z := ([99, 97, 116, 115] : Str)) ⟨rfl, (by decide : ([99, 97, 116, 115] : Str).length ≤ maxLen)⟩ (lit_cons (u := sv [99, 97, 114]) (z := ([99, 97, 114] : Str)) ⟨rfl, (by decide : ([99, 97, 114] : Str).length ≤ maxLen)⟩ (lit_cons (u := sv [99, 97, 114, 115]) (z := ([99, 97, 114, 115] : Str)) ⟨rfl, (by decide : ([99, 97, 114, 115] : Str).length ≤ maxLen)⟩ (lit_cons (u := sv [100, 111, 103]) (z := ([100, 111, 103] : Str)) ⟨rfl, (by decide : ([100, 111, 103] : Str).length ≤ maxLen)⟩ (lit_cons (u := sv [100, 111, 103, 115]) (z := ([100, 111, 103, 115] : Str)) ⟨rfl, (by decide : ([100, 111, 103, 115] : Str).length ≤ maxLen)⟩ (lit_cons (u := sv [100, 111]) (z := ([100, 111] : Str)) ⟨rfl, (by decide : ([100, 111] : Str).length ≤ maxLen)⟩ (lit_cons (u := sv [116, 97, 112]) (z := ([116, 97, 112] : Str)) ⟨rfl, (by decide : ([116, 97, 112] : Str).length ≤ maxLen)⟩ (lit_cons (u := sv [116, 97, 112, 115]) (z := ([116, 97, 112, 115] : Str)) ⟨rfl, (by decide : ([116, 97, 112, 115] : Str).length ≤ maxLen)⟩ (lit_cons (u := sv [116, 111, 112]) (z := ([116, 111, 112] : Str)) ⟨rfl, (by decide : ([116, 111, 112] : Str).length ≤ maxLen)⟩ (lit_cons (u := sv [116, 111, 112, 115]) (z := ([116, 111, 112, 115] : Str)) ⟨rfl, (by decide : ([116, 111, 112, 115] : Str).length ≤ maxLen)⟩ (lit_cons (u := sv [114, 117, 110]) (z := ([114, 117, 110] : Str)) ⟨rfl, (by decide : ([114, 117, 110] : Str).length ≤ maxLen)⟩ lit_nil))))))))))))) hS51 ?_
      intro a67 w68 K69 hl70 hs71 hS72
      obtain ⟨r73, hx74, h75⟩ := Option.bind_eq_some_iff.1 h66
      have hS76 : SH _ _ _ _ _ [_, _, _] := SH.front (p := [_]) hS72
      refine wl_call wn rfl (rt_call (vs := [.pointer (some ⟨g1, 0, none⟩), .slice a67 13 13]) co105 rfl) ((ok_spec_l30Rd_of F) (SH.enter (Lin := [_]) hS76) (SliceAt.mono hl70 hs60) hr61 hs71 hx74) ?_
      rintro e86 w78 ⟨a81, n82, c83, K77, rfl, hS79, hl80, hs84, hr85⟩
      refine ⟨_, rfl, ?_⟩
      have hS87 : SH _ _ _ _ _ [_, _, _] := SH.call (Lin := [_]) hS76 hS79
      obtain ⟨r88, hx89, h90⟩ := Option.bind_eq_some_iff.1 h75
      have hS91 : SH _ _ _ _ _ [_, _, _] := SH.front (p := [_, _]) hS87
      refine wl_call wn rfl (rt_call (vs := [.slice a52 n53 c54, sv r73.1]) co129 rfl) ((ok_spec_l7Put F) (SH.enter (Lin := [_]) hS91) (SliceAt.mono (hl70.trans hS79.le) hs55) hl80 hx89) ?_
      rintro e99 w93 ⟨a95, n96, c97, K92, rfl, hS94, hs98⟩
      refine ⟨_, rfl, ?_⟩
      have hS100 : SH _ _ _ _ _ [_, _, _] := SH.call (Lin := [_]) hS91 hS94
      refine wl_val wn rfl (rv_assign rfl) ?_
      refine wl_nil ?_
      refine qe_block ?_
      refine qe_seq ?_
      refine wc_region ?_
      refine wl_val wn rfl (rv_move rfl) ?_
      refine wl_val wn rfl (rv_sub rfl rfl) ?_
      refine wl_val wn rfl (rv_assign rfl) ?_
      refine wl_nil ?_
      obtain rfl := Option.some.inj h90
      have hS101 : SH _ _ _ _ _ [_, _, _] := SH.front (p := [_]) hS100
      have hS102 : SH _ _ _ _ _ [_, _] := SH.sublist hS101 (.cons_cons _ (.cons_cons _ (.cons _ .slnil)))
      exact qe_mid' ⟨_, rfl, a95, n96, c97, a81, n82, c83, K92, rfl, hS102, (((hl49.trans hl70).trans hS79.le).trans hS94.le), hs98, (w64_rng _), (SliceAt.mono hS94.le hs84), hr85⟩ ⟨rfl, rfl, rfl, trivial⟩
    · have h66 := cond_f hb65 h63
      refine wc_exit ?_
      refine qe_then_exit ?_
      refine qe_then_exit ?_
      obtain rfl := Option.some.inj h66
      have e103 := hx64 _ rfl
      subst e103
      refine qe_block_eq ?_
      obtain rfl := Option.some.inj h47
      exact qe_mid' ⟨a52, n53, c54, a57, n58, c59, K48, rfl, hS51, hl49, hs55, hs60, hr61⟩ ⟨rfl, rfl, trivial⟩
  · rintro _ w33 ⟨a35, n36, c37, a39, n40, c41, K31, rfl, hS34, hl32, hs38, hs42, hr43⟩
    refine qe_seq ?_
    refine wc_seq ?_
    refine wc_region ?_
    refine wl_val wn rfl (rv_move rfl) ?_
    refine wl_val wn rfl (rv_assign rfl) ?_
    refine wl_nil ?_
    refine qe_seq ?_
    refine wc_ret ?_
    obtain rfl := Option.some.inj h30
    have hS104 : SH _ _ _ _ _ [_, _] := SH.front (p := [_]) hS34
    exact qe_ret (vs := [_]) Try.results104 ⟨rfl, trivial⟩ ⟨a35, n36, c37, a39, n40, c41, K31, rfl, hS104, hs38, hs42, hr43⟩

theorem ok_spec_l30AnyWords (F : Nat) {w : World} {K : KMap} {g1 : Nat} {a2 : Option Addr} {n3 c4 : Nat} {p0_r : GL30Rd} {r : (List Str) × GL30Rd} (hS : SH w K (List.filterMap Item.g [obj g1 [.slice a2 n3 c4, .int .i64 p0_r.p_] 135]) w K [obj g1 [.slice a2 n3 c4, .int .i64 p0_r.p_] 135]) (hs5 : SliceAt tU8 K a2 n3 c4 p0_r.b_) (hr6 : rng64 p0_r.p_) (hm : M.spec_l30AnyWords F p0_r = some r) :
    Calls Try.prog 63 #[.pointer (some ⟨g1, 0, none⟩)] w fun e w' => ∃ (a_1 : Option Addr) (n_2 c_3 : Nat) (a_5 : Option Addr) (n_6 c_7 : Nat) (K' : KMap), e = .returned (.slice a_1 n_2 c_3) ∧ SH w K (List.filterMap Item.g [obj g1 [.slice a2 n3 c4, .int .i64 p0_r.p_] 135]) w' K' [tail (.slice a_1 n_2 c_3) 9 1, obj g1 [.slice a_5 n_6 c_7, .int .i64 r.2.p_] 135] ∧ SliceAt tStr K' a_1 n_2 c_3 r.1 ∧ SliceAt tU8 K' a_5 n_6 c_7 r.2.b_ ∧ rng64 r.2.p_ := by
  rw [M.spec_l30AnyWords] at hm
  refine calls_in Try.func63 rfl Try.ntmps63 rfl ?_
  refine wc_seq ?_
  refine wc_region ?_
  refine wl_val wn rfl (rv_assign (v := .slice none 0 0) rfl) ?_
  refine wl_nil ?_
  refine qe_seq ?_
  refine wc_seq ?_
  refine wc_region ?_
  refine wl_val wn rfl (rv_move rfl) ?_
  obtain ⟨r7, hx8, h9⟩ := Option.bind_eq_some_iff.1 hm
  refine wl_call wn rfl (rt_call (vs := [.pointer (some ⟨g1, 0, none⟩)]) co104 rfl) ((ok_spec_l30Words F) (SH.enter (Lin := [_]) hS) hs5 hr6 hx8) ?_
  rintro e22 w11 ⟨a13, n14, c15, a17, n18, c19, K10, rfl, hS12, hs16, hs20, hr21⟩
  refine ⟨_, rfl, ?_⟩
  have hS23 : SH _ _ _ _ _ [_, _] := SH.call (Lin := [_]) hS hS12
  refine wl_val wn rfl (rv_assign rfl) ?_
  refine wl_nil ?_
  refine qe_seq ?_
  refine wc_seq ?_
  refine wc_seq ?_
  refine wc_region ?_
  refine wl_val wn rfl (rv_move rfl) ?_
  obtain ⟨r24, hx25, h26⟩ := Option.bind_eq_some_iff.1 h9
  have hS27 : SH _ _ _ _ _ [_, _] := SH.front (p := [_]) hS23
  refine wl_call wn rfl (rt_call (vs := [.pointer (some ⟨g1, 0, none⟩), .int .i64 10]) co56 rfl) ((ok_spec_l30Rd_pick F) (SH.enter (Lin := [_]) hS27) hs20 hr21 (by decide : rng64 10) hx25) ?_
  rintro e37 w29 ⟨a32, n33, c34, K28, rfl, hS30, hr31, hs35, hr36⟩
  refine ⟨_, rfl, ?_⟩
  have hS38 : SH _ _ _ _ _ [_, _] := SH.call (Lin := [_]) hS27 hS30
  refine wl_val wn rfl (rv_eql rfl rfl) ?_
  refine wl_nil ?_
  refine qe_seq ?_
  refine wc_cond rfl (fun hb39 => ?_) (fun hb39 => ?_)
  · have h40 := cond_t hb39 h26
    refine wc_seq ?_
    refine wc_region ?_
    refine wl_val wn rfl (rv_move rfl) ?_
    refine wl_val wn rfl (rv_move rfl) ?_
    refine wl_buildSlice (t := tStr) (n := 3) (pv := [(0, sv [97]), (1, sv [66]), (2, sv [])]) (cs := [sv [97], sv [66], sv []]) (xs := [([97] : Str), ([66] : Str), ([] : Str)]) wn rfl Try.underlying47 tf9 rfl rfl rfl (by kernel_rfl) rfl rfl (lit_cons (u := sv [97]) (z := ([97] : Str)) ⟨rfl, (by decide : ([97] : Str).length ≤ maxLen)⟩ (lit_cons (u := sv [66]) (z := ([66] : Str)) ⟨rfl, (by decide : ([66] : Str).length ≤ maxLen)⟩ (lit_cons (u := sv []) (z := ([] : Str)) ⟨rfl, (by decide : ([] : Str).length ≤ maxLen)⟩ lit_nil))) hS38 ?_
    intro a41 w42 K43 hl44 hs45 hS46
    obtain ⟨r47, hx48, h49⟩ := Option.bind_eq_some_iff.1 h40
    have hS50 : SH _ _ _ _ _ [_, _, _] := SH.front (p := [_]) hS46
    refine wl_call wn rfl (rt_call (vs := [.pointer (some ⟨g1, 0, none⟩), .slice a41 3 3]) co105 rfl) ((ok_spec_l30Rd_of F) (SH.enter (Lin := [_]) hS50) (SliceAt.mono hl44 hs35) hr36 hs45 hx48) ?_
    rintro e60 w52 ⟨a55, n56, c57, K51, rfl, hS53, hl54, hs58, hr59⟩
    refine ⟨_, rfl, ?_⟩
    have hS61 : SH _ _ _ _ _ [_, _, _] := SH.call (Lin := [_]) hS50 hS53
    refine wl_buildSlice (t := tStr) (n := 1) (pv := [(0, sv r47.1)]) (cs := [sv r47.1]) (xs := [r47.1]) wn rfl Try.underlying47 tf9 rfl rfl rfl (by kernel_rfl) rfl rfl (lit_cons (u := sv r47.1) (z := r47.1) ⟨rfl, hl54⟩ lit_nil) hS61 ?_
    intro a62 w63 K64 hl65 hs66 hS67
    have hS68 : SH _ _ _ _ _ [_, _, _, _] := SH.front (p := [_, _, _]) hS67
    obtain ⟨x69, hx70, h71⟩ := Option.bind_eq_some_iff.1 h49
    refine wl_append (t := tStr) wn rfl Try.underlying47 tf9 rfl rfl rfl rfl rfl (SliceAt.mono (((hS30.le.trans hl44).trans hS53.le).trans hl65) hs16) hs66 hx70 hS68 ?_
    intro a72 n73 c74 w75 K76 hl77 hs78 hS79
    refine wl_val wn rfl (rv_assign rfl) ?_
    refine wl_nil ?_
    refine qe_seq ?_
    refine wc_ret ?_
    refine qe_then_ret ?_
    obtain rfl := Option.some.inj h71
    have hS80 : SH _ _ _ _ _ [_, _] := SH.sublist hS79 (.cons_cons _ (.cons _ (.cons_cons _ (.cons _ .slnil))))
    exact qe_ret (vs := [_]) Try.results63 ⟨rfl, trivial⟩ ⟨a72, n73, c74, a55, n56, c57, K76, rfl, hS80, hs78, (SliceAt.mono (hl65.trans hl77) hs58), hr59⟩
  · have h40 := cond_f hb39 h26
    refine wc_skip ?_
    refine qe_seq ?_
    refine wc_seq ?_
    refine wc_region ?_
    refine wl_buildSlice0 tStr wn rfl Try.underlying47 tf9 hS38 ?_
    intro a81 w82 K83 hl84 hs85 hS86
    refine wl_val wn rfl (rv_move rfl) ?_
    obtain ⟨x87, hx88, h89⟩ := Option.bind_eq_some_iff.1 h40
    refine wl_append (t := tStr) wn rfl Try.underlying47 tf9 rfl rfl rfl rfl rfl hs85 (SliceAt.mono (hS30.le.trans hl84) hs16) hx88 hS86 ?_
    intro a90 n91 c92 w93 K94 hl95 hs96 hS97
    refine wl_val wn rfl (rv_assign rfl) ?_
    refine wl_nil ?_
    refine qe_seq ?_
    refine wc_ret ?_
    obtain rfl := Option.some.inj h89
    have hS98 : SH _ _ _ _ _ [_, _] := SH.sublist hS97 (.cons_cons _ (.cons_cons _ (.cons _ .slnil)))
    exact qe_ret (vs := [_]) Try.results63 ⟨rfl, trivial⟩ ⟨a90, n91, c92, a32, n33, c34, K94, rfl, hS98, hs96, (SliceAt.mono (hl84.trans hl95) hs35), hr36⟩

theorem ok_spec_DrawDawgOf (F : Nat) {w : World} {K : KMap} {a1 : Option Addr} {n2 c3 : Nat} {p0_code : List UInt8} {r : (List Str)} (hS : SH w K [] w K []) (hs4 : SliceAt tU8 K a1 n2 c3 p0_code) (hm : M.spec_DrawDawgOf F p0_code = some r) :
    Calls Try.prog 21 #[.slice a1 n2 c3] w fun e w' => ∃ (a_1 : Option Addr) (n_2 c_3 : Nat) (K' : KMap), e = .returned (.slice a_1 n_2 c_3) ∧ SH w K [] w' K' [tail (.slice a_1 n_2 c_3) 9 1] ∧ SliceAt tStr K' a_1 n_2 c_3 r := by
  rw [M.spec_DrawDawgOf] at hm
  refine calls_in Try.func21 rfl Try.ntmps21 rfl ?_
  refine wc_seq ?_
  refine wc_region ?_
  refine wl_val wn rfl (rv_assign (v := .slice none 0 0) rfl) ?_
  refine wl_nil ?_
  refine qe_seq ?_
  refine wc_seq ?_
  refine wc_region ?_
  refine wl_val wn rfl (rv_move rfl) ?_
  obtain ⟨r5, hx6, h7⟩ := Option.bind_eq_some_iff.1 hm
  refine wl_call wn rfl (rt_call (vs := [.slice a1 n2 c3]) co54 rfl) ((ok_spec_l30Open F) hS.enter0 hs4 hx6) ?_
  rintro e17 w9 ⟨g11, a12, n13, c14, K8, rfl, hS10, hs15, hr16⟩
  refine ⟨_, rfl, ?_⟩
  have hS18 : SH _ _ _ _ _ [_] := SH.call0 hS hS10
  obtain ⟨r19, hx20, h21⟩ := Option.bind_eq_some_iff.1 h7
  refine wl_call wn rfl (rt_call (vs := [.pointer (some ⟨g11, 0, none⟩)]) co63 rfl) ((ok_spec_l30AnyWords F) (SH.enter (Lin := [_]) hS18) hs15 hr16 hx20) ?_
  rintro e34 w23 ⟨a25, n26, c27, a29, n30, c31, K22, rfl, hS24, hs28, hs32, hr33⟩
  refine ⟨_, rfl, ?_⟩
  have hS35 : SH _ _ _ _ _ [_, _] := SH.call (Lin := [_]) hS18 hS24
  refine wl_val wn rfl (rv_assign rfl) ?_
  refine wl_nil ?_
  refine qe_seq ?_
  refine wc_ret ?_
  obtain rfl := Option.some.inj h21
  have hS36 : SH _ _ _ _ _ [_] := SH.sublist hS35 (.cons_cons _ (.cons _ .slnil))
  exact qe_ret (vs := [_]) Try.results21 ⟨rfl, trivial⟩ ⟨a25, n26, c27, K22, rfl, hS36, hs28⟩

theorem ok_spec_l30Word (F : Nat) {w : World} {K : KMap} {g1 : Nat} {a2 : Option Addr} {n3 c4 : Nat} {p0_r : GL30Rd} {r : Str × GL30Rd} (hS : SH w K (List.filterMap Item.g [obj g1 [.slice a2 n3 c4, .int .i64 p0_r.p_] 135]) w K [obj g1 [.slice a2 n3 c4, .int .i64 p0_r.p_] 135]) (hs5 : SliceAt tU8 K a2 n3 c4 p0_r.b_) (hr6 : rng64 p0_r.p_) (hm : M.spec_l30Word F p0_r = some r) :
    Calls Try.prog 64 #[.pointer (some ⟨g1, 0, none⟩)] w fun e w' => ∃ (a_2 : Option Addr) (n_3 c_4 : Nat) (K' : KMap), e = .returned (sv r.1) ∧ SH w K (List.filterMap Item.g [obj g1 [.slice a2 n3 c4, .int .i64 p0_r.p_] 135]) w' K' [obj g1 [.slice a_2 n_3 c_4, .int .i64 r.2.p_] 135] ∧ r.1.length ≤ maxLen ∧ SliceAt tU8 K' a_2 n_3 c_4 r.2.b_ ∧ rng64 r.2.p_ := by
  rw [M.spec_l30Word] at hm
  refine calls_in Try.func64 rfl Try.ntmps64 rfl ?_
  refine wc_seq ?_
  refine wc_region ?_
  refine wl_val wn rfl (rv_assign (v := sv []) rfl) ?_
  refine wl_nil ?_
  refine qe_seq ?_
  refine wc_seq ?_
  refine wc_region ?_
  refine wl_val wn rfl (rv_move rfl) ?_
  refine wl_buildSlice (t := tStr) (n := 10) (pv := [(0, sv [99, 97, 116]), (1, sv [99, 97, 116, 115]), (2, sv [99, 97, 114]), (3, sv [99, 97, 114, 116]), (4, sv [100, 111, 103]), (5, sv [116, 97, 112]), (6, sv [116, 111, 112, 115]), (7, sv [97, 98, 99, 100, 101, 102, 103, 104, 105, 106, 107, 108]), (8, sv [97]), (9, sv [97, 99, 97, 116])]) (cs := [sv [99, 97, 116], sv [99, 97, 116, 115], sv [99, 97, 114], sv [99, 97, 114, 116], sv [100, 111, 103], sv [116, 97, 112], sv [116, 111, 112, 115], sv [97, 98, 99, 100, 101, 102, 103, 104, 105, 106, 107, 108], sv [97], sv [97, 99, 97, 116]]) (xs := [([99, 97, 116] : Str), ([99, 97, 116, 115] : Str), ([99, 97, 114] : Str), ([99, 97, 114, 116] : Str), ([100, 111, 103] : Str), ([116, 97, 112] : Str), ([116, 111, 112, 115] : Str), ([97, 98, 99, 100, 101, 102, 103, 104, 105, 106, 107, 108] : Str), ([97] : Str), ([97, 99, 97, 116] : Str)]) wn rfl Try.underlying47 tf9 rfl rfl rfl (by kernel_rfl) rfl rfl (lit_cons (u := sv [99, 97, 116]) (z := ([99, 97, 116] : Str)) ⟨rfl, (by decide : ([99, 97, 116] : Str).length ≤ maxLen)⟩ (lit_cons (u := sv [99, 97, 116, 115]) (z := ([99, 97, 116, 115] : Str)) ⟨rfl, (by decide : ([99, 97, 116, 115] : Str).length ≤ maxLen)⟩ (lit_cons (u := sv [99, 97, 114]) (z := ([99, 97, 114] : Str)) ⟨rfl, (by decide : ([99, 97, 114] : Str).length ≤ maxLen)⟩ (lit_cons (u := sv [99, 97, 114, 116]) (z := ([99, 97, 114, 116] : Str)) ⟨rfl, (by decide : ([99, 97, 114, 116] : Str).length ≤ maxLen)⟩ (lit_cons (u := sv [100, 111, 103]) (z := ([100, 111, 103] : Str)) ⟨rfl, (by decide : ([100, 111, 103] : Str).length ≤ maxLen)⟩ (lit_cons (u := sv [116, 97, 112]) (z := ([116, 97, 112] : Str)) ⟨rfl, (by decide : ([116, 97, 112] : Str).length ≤ maxLen)⟩ (lit_cons (u := sv [116, 111, 112, 115]) (z := ([116, 111, 112, 115] : Str)) ⟨rfl, (by decide : ([116, 111, 112, 115] : Str).length ≤ maxLen)⟩ (lit_cons (u := sv [97, 98, 99, 100, 101, 102, 103, 104, 105, 106, 107, 108]) (z := ([97, 98, 99, 100, 101, 102, 103, 104, 105, 106, 107, 108] : Str)) ⟨rfl, (by decide : ([97, 98, 99, 100, 101, 102, 103, 104, 105, 106, 107, 108] : Str).length ≤ maxLen)⟩ (lit_cons (u := sv [97]) (z := ([97] : Str)) ⟨rfl, (by decide : ([97] : Str).length ≤ maxLen)⟩ (lit_cons (u := sv [97, 99, 97, 116]) (z := ([97, 99, 97, 116] : Str)) ⟨rfl, (by decide : ([97, 99, 97, 116] : Str).length ≤ maxLen)⟩ lit_nil)))))))))) hS ?_
  intro a7 w8 K9 hl10 hs11 hS12
  obtain ⟨r13, hx14, h15⟩ := Option.bind_eq_some_iff.1 hm
  have hS16 : SH _ _ _ _ _ [_, _] := SH.front (p := [_]) hS12
  refine wl_call wn rfl (rt_call (vs := [.pointer (some ⟨g1, 0, none⟩), .slice a7 10 10]) co105 rfl) ((ok_spec_l30Rd_of F) (SH.enter (Lin := [_]) hS16) (SliceAt.mono hl10 hs5) hr6 hs11 hx14) ?_
  rintro e26 w18 ⟨a21, n22, c23, K17, rfl, hS19, hl20, hs24, hr25⟩
  refine ⟨_, rfl, ?_⟩
  have hS27 : SH _ _ _ _ _ [_, _] := SH.call (Lin := [_]) hS16 hS19
  refine wl_val wn rfl (rv_assign rfl) ?_
  refine wl_nil ?_
  refine qe_seq ?_
  refine wc_ret ?_
  obtain rfl := Option.some.inj h15
  have hS28 : SH _ _ _ _ _ [_] := SH.sublist hS27 (.cons_cons _ (.cons _ .slnil))
  exact qe_ret (vs := [_]) Try.results64 ⟨rfl, trivial⟩ ⟨a21, n22, c23, K17, rfl, hS28, hl20, hs24, hr25⟩
end Go.Proofs.Ytajfhpaokbgmeaa
