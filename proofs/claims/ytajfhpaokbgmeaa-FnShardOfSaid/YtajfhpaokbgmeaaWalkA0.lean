/-
  Walks of the functions. Printed by gen.py.
-/
import Derived.Test.YtajfhpaokbgmeaaFacts
set_option linter.unusedVariables false
set_option maxRecDepth 100000
namespace Go.Proofs.Ytajfhpaokbgmeaa
open Go Go.Fk Go.RowKit

theorem ok_spec_l30Open (F : Nat) {w : World} {K : KMap} {a1 : Option Addr} {n2 c3 : Nat} {p0_code : List UInt8} {r : GL30Rd} (hS : SH w K [] w K []) (hs4 : SliceAt tU8 K a1 n2 c3 p0_code) (hm : M.spec_l30Open F p0_code = some r) :
    Calls Try.prog 54 #[.slice a1 n2 c3] w fun e w' => ∃ (g_1 : Nat) (a_2 : Option Addr) (n_3 c_4 : Nat) (K' : KMap), e = .returned (.pointer (some ⟨g_1, 0, none⟩)) ∧ SH w K [] w' K' [obj g_1 [.slice a_2 n_3 c_4, .int .i64 r.p_] 135] ∧ SliceAt tU8 K' a_2 n_3 c_4 r.b_ ∧ rng64 r.p_ := by
  rw [M.spec_l30Open] at hm
  refine calls_in Try.func54 rfl Try.ntmps54 rfl ?_
  refine wc_seq ?_
  refine wc_region ?_
  refine wl_val wn rfl (rv_assign (v := .pointer none) rfl) ?_
  refine wl_nil ?_
  refine qe_seq ?_
  refine wc_seq ?_
  refine wc_seq ?_
  refine wc_region ?_
  refine wl_val wn rfl (rv_move rfl) ?_
  refine wl_val wn rfl (rv_len (t := tU8) Try.underlying33 rfl hs4) ?_
  refine wl_val wn rfl (rv_gtr rfl rfl) ?_
  refine wl_nil ?_
  refine qe_seq ?_
  refine wc_cond rfl (fun hb5 => ?_) (fun hb5 => ?_)
  · have h6 := cond_t hb5 hm
    refine wc_region ?_
    refine wl_val wn rfl (rv_move rfl) ?_
    obtain ⟨x7, hx8, h9⟩ := Option.bind_eq_some_iff.1 h6
    refine wl_sl_h (t := tU8) wn rfl Try.underlying33 tf5 rfl rfl hs4 hx8 ?_
    intro a10 n11 c12 hs13
    refine wl_val wn rfl (rv_assign rfl) ?_
    refine wl_nil ?_
    refine qe_seq ?_
    refine wc_seq ?_
    refine wc_region ?_
    refine wl_val wn rfl (rv_move rfl) ?_
    refine wl_val wn rfl (rv_build (cs := #[.slice a10 n11 c12, .int .i64 0]) sp135 tf135 rfl (by kernel_rfl)) ?_
    refine wl_box wn rfl rfl hS ?_
    intro g14 w15 hS16
    have hS17 : SH _ _ _ _ _ [obj g14 [.slice a10 n11 c12, .int .i64 0] 135] := hS16
    refine wl_val wn rfl (rv_assign rfl) ?_
    refine wl_nil ?_
    refine qe_seq ?_
    refine wc_ret ?_
    obtain rfl := Option.some.inj h9
    exact qe_ret (vs := [_]) Try.results54 ⟨rfl, trivial⟩ ⟨g14, a10, n11, c12, K, rfl, hS17, hs13, (by decide : rng64 0)⟩
  · have h6 := cond_f hb5 hm
    refine wc_skip ?_
    refine qe_seq ?_
    refine wc_seq ?_
    refine wc_region ?_
    refine wl_val wn rfl (rv_move rfl) ?_
    refine wl_val wn rfl (rv_build (cs := #[.slice a1 n2 c3, .int .i64 0]) sp135 tf135 rfl (by kernel_rfl)) ?_
    refine wl_box wn rfl rfl hS ?_
    intro g18 w19 hS20
    have hS21 : SH _ _ _ _ _ [obj g18 [.slice a1 n2 c3, .int .i64 0] 135] := hS20
    refine wl_val wn rfl (rv_assign rfl) ?_
    refine wl_nil ?_
    refine qe_seq ?_
    refine wc_ret ?_
    obtain rfl := Option.some.inj h6
    exact qe_ret (vs := [_]) Try.results54 ⟨rfl, trivial⟩ ⟨g18, a1, n2, c3, K, rfl, hS21, hs4, (by decide : rng64 0)⟩

theorem ok_spec_l30Rd_pick (F : Nat) {w : World} {K : KMap} {g1 : Nat} {a2 : Option Addr} {n3 c4 : Nat} {p0_r : GL30Rd} {p1_n : Int} {r : Int × GL30Rd} (hS : SH w K (List.filterMap Item.g [obj g1 [.slice a2 n3 c4, .int .i64 p0_r.p_] 135]) w K [obj g1 [.slice a2 n3 c4, .int .i64 p0_r.p_] 135]) (hs5 : SliceAt tU8 K a2 n3 c4 p0_r.b_) (hr6 : rng64 p0_r.p_) (hr7 : rng64 p1_n) (hm : M.spec_l30Rd_pick F p0_r p1_n = some r) :
    Calls Try.prog 56 #[.pointer (some ⟨g1, 0, none⟩), .int .i64 p1_n] w fun e w' => ∃ (a_2 : Option Addr) (n_3 c_4 : Nat) (K' : KMap), e = .returned (.int .i64 r.1) ∧ SH w K (List.filterMap Item.g [obj g1 [.slice a2 n3 c4, .int .i64 p0_r.p_] 135]) w' K' [obj g1 [.slice a_2 n_3 c_4, .int .i64 r.2.p_] 135] ∧ rng64 r.1 ∧ SliceAt tU8 K' a_2 n_3 c_4 r.2.b_ ∧ rng64 r.2.p_ := by
  rw [M.spec_l30Rd_pick] at hm
  refine calls_in Try.func56 rfl Try.ntmps56 rfl ?_
  refine wc_seq ?_
  refine wc_region ?_
  refine wl_val wn rfl (rv_assign (v := .int .i64 0) rfl) ?_
  refine wl_nil ?_
  refine qe_seq ?_
  refine wc_seq ?_
  refine wc_region ?_
  refine wl_val wn rfl (rv_move rfl) ?_
  refine wl_val wn rfl (rv_move rfl) ?_
  refine wl_val wn rfl (rv_nilCheck rfl) ?_
  refine wl_val wn rfl (rv_fieldAddr ff135_1 rfl) ?_
  refine wl_val wn rfl (rv_loadm1 tf3 rfl (.head _) hS rfl) ?_
  refine wl_val wn rfl (rv_add rfl rfl) ?_
  refine wl_val wn rfl (rv_nilCheck rfl) ?_
  refine wl_val wn rfl (rv_fieldAddr ff135_1 rfl) ?_
  refine wl_store (cs' := [.slice a2 n3 c4, .int .i64 (w64 (p0_r.p_ + (1 : Int)))]) (v := .int .i64 (w64 (p0_r.p_ + (1 : Int)))) wn tf3 rfl rfl rfl (by simp [Value.cells, Value.oneCell']) hS rfl rfl ?_
  intro w8 hS9
  refine wl_nil ?_
  refine qe_seq ?_
  refine wc_seq ?_
  refine wc_seq ?_
  obtain ⟨o10, h11, h12⟩ := Option.bind_eq_some_iff.1 hm
  refine wc_cutg (fun E' w' => ∃ (K13 : KMap), E' = [(0, .pointer (some ⟨g1, 0, none⟩)), (1, .int .i64 p1_n), (24, .bool o10)] ∧ SH w K (List.filterMap Item.g [obj g1 [.slice a2 n3 c4, .int .i64 p0_r.p_] 135]) w' K13 [obj g1 [.slice a2 n3 c4, .int .i64 (w64 (p0_r.p_ + (1 : Int)))] 135] ∧ KLe K K13) ?_ ?_
  · refine wc_region ?_
    refine wl_val wn rfl (rv_move rfl) ?_
    refine wl_val wn rfl (rv_lss rfl rfl) ?_
    refine wl_val wn rfl (rv_move rfl) ?_
    rcases bool_tf (decide (p1_n < (1 : Int))) with hb17 | hb17
    · have h18 := cond_t hb17 h11
      refine wl_un (ug rfl rfl hb17) rfl ?_
      refine wl_un (ug rfl rfl hb17) rfl ?_
      refine wl_un (ug rfl rfl hb17) rfl ?_
      refine wl_un (ug rfl rfl hb17) rfl ?_
      refine wl_un (ug rfl rfl hb17) rfl ?_
      refine wl_un (ug rfl rfl hb17) rfl ?_
      refine wl_val wn rfl (rv_pick_t (v := .bool true) rfl hb17 rfl) ?_
      refine wl_nil ?_
      obtain rfl := Option.some.inj h18
      exact qe_mid' ⟨K, rfl, hS9, (KLe.refl _)⟩ ⟨rfl, rfl, rfl, trivial⟩
    · have h18 := cond_f hb17 h11
      refine wl_val (wg rfl rfl hb17) rfl (rv_move rfl) ?_
      refine wl_val (wg rfl rfl hb17) rfl (rv_nilCheck rfl) ?_
      refine wl_val (wg rfl rfl hb17) rfl (rv_fieldAddr ff135_0 rfl) ?_
      refine wl_val (wg rfl rfl hb17) rfl (rv_loadm1 tf33 rfl (.head _) hS9 rfl) ?_
      refine wl_val (wg rfl rfl hb17) rfl (rv_len (t := tU8) Try.underlying33 rfl hs5) ?_
      refine wl_val (wg rfl rfl hb17) rfl (rv_eql rfl rfl) ?_
      refine wl_val wn rfl (rv_pick_f rfl hb17 rfl) ?_
      refine wl_nil ?_
      obtain rfl := Option.some.inj h18
      exact qe_mid' ⟨K, rfl, hS9, (KLe.refl _)⟩ ⟨rfl, rfl, rfl, trivial⟩
  · rintro _ w15 ⟨K13, rfl, hS16, hl14⟩
    refine qe_seq ?_
    refine wc_cond rfl (fun hb19 => ?_) (fun hb19 => ?_)
    · have h20 := cond_t hb19 h12
      refine wc_seq ?_
      refine wc_region ?_
      refine wl_val wn rfl (rv_assign (v := .int .i64 0) rfl) ?_
      refine wl_nil ?_
      refine qe_seq ?_
      refine wc_ret ?_
      refine qe_then_ret ?_
      obtain rfl := Option.some.inj h20
      exact qe_ret (vs := [_]) Try.results56 ⟨rfl, trivial⟩ ⟨a2, n3, c4, K13, rfl, hS16, (by decide : rng64 0), (SliceAt.mono hl14 hs5), (w64_rng _)⟩
    · have h20 := cond_f hb19 h12
      refine wc_skip ?_
      refine qe_seq ?_
      refine wc_seq ?_
      refine wc_region ?_
      refine wl_val wn rfl (rv_move rfl) ?_
      refine wl_val wn rfl (rv_nilCheck rfl) ?_
      refine wl_val wn rfl (rv_fieldAddr ff135_1 rfl) ?_
      refine wl_val wn rfl (rv_loadm1 tf3 rfl (.head _) hS16 rfl) ?_
      refine wl_val wn rfl (rv_sub rfl rfl) ?_
      refine wl_val wn rfl (rv_assign rfl) ?_
      refine wl_nil ?_
      refine qe_seq ?_
      refine wc_seq ?_
      refine wc_seq ?_
      refine wc_region ?_
      refine wl_val wn rfl (rv_move rfl) ?_
      refine wl_val wn rfl (rv_move rfl) ?_
      refine wl_val wn rfl (rv_nilCheck rfl) ?_
      refine wl_val wn rfl (rv_fieldAddr ff135_0 rfl) ?_
      refine wl_val wn rfl (rv_loadm1 tf33 rfl (.head _) hS16 rfl) ?_
      refine wl_val wn rfl (rv_len (t := tU8) Try.underlying33 rfl (SliceAt.mono hl14 hs5)) ?_
      refine wl_val wn rfl (rv_lss rfl rfl) ?_
      refine wl_nil ?_
      refine qe_seq ?_
      refine wc_cond rfl (fun hb21 => ?_) (fun hb21 => ?_)
      · have h22 := cond_t hb21 h20
        refine wc_seq ?_
        refine wc_region ?_
        refine wl_val wn rfl (rv_move rfl) ?_
        refine wl_val wn rfl (rv_nilCheck rfl) ?_
        refine wl_val wn rfl (rv_fieldAddr ff135_0 rfl) ?_
        refine wl_val wn rfl (rv_loadm1 tf33 rfl (.head _) hS16 rfl) ?_
        refine wl_val wn rfl (rv_move rfl) ?_
        obtain ⟨x23, hx24, h25⟩ := Option.bind_eq_some_iff.1 h22
        refine wl_indexAddr (t := tU8) wn rfl Try.underlying33 tf5 rfl rfl (SliceAt.mono hl14 hs5) hx24 ?_
        intro b26 o27 u28 hu29 ha30
        obtain rfl := hu29
        have ha31 : AtK _ b26 o27 [iv8 x23] := ha30
        refine wl_val wn rfl (rv_load1 tf5 rfl hS16 (ha31 0 _ rfl)) ?_
        refine wl_val wn rfl (rv_b2i Try.underlying5 Try.underlying3 rfl) ?_
        refine wl_val wn rfl (rv_move rfl) ?_
        obtain ⟨x32, hx33, h34⟩ := Option.bind_eq_some_iff.1 h25
        refine wl_val wn rfl (rv_rem rfl rfl hx33) ?_
        refine wl_val wn rfl (rv_assign rfl) ?_
        refine wl_nil ?_
        refine qe_seq ?_
        refine wc_ret ?_
        refine qe_then_ret ?_
        obtain rfl := Option.some.inj h34
        exact qe_ret (vs := [_]) Try.results56 ⟨rfl, trivial⟩ ⟨a2, n3, c4, K13, rfl, hS16, (rng_rem (rng_u8 _) hx33), (SliceAt.mono hl14 hs5), (w64_rng _)⟩
      · have h22 := cond_f hb21 h20
        refine wc_skip ?_
        refine qe_seq ?_
        refine wc_seq ?_
        refine wc_quiet mixed (by kernel_rfl) hS16 ?_
        refine wq_val wn rfl (fun _ _ => (rv_move rfl)) ?_
        refine wq_val wn rfl (fun _ _ => (rv_nilCheck rfl)) ?_
        refine wq_val wn rfl (fun _ _ => (rv_fieldAddr ff135_0 rfl)) ?_
        refine wq_val wn rfl (rq_loadm1 tf33 rfl (.head _) rfl) ?_
        refine wq_val wn rfl (fun _ _ => (rv_move rfl)) ?_
        refine wq_val wn rfl (fun _ _ => (rv_move rfl)) ?_
        refine wq_val wn rfl (fun _ _ => (rv_nilCheck rfl)) ?_
        refine wq_val wn rfl (fun _ _ => (rv_fieldAddr ff135_0 rfl)) ?_
        refine wq_val wn rfl (rq_loadm1 tf33 rfl (.head _) rfl) ?_
        refine wq_val wn rfl (fun _ _ => (rv_len (t := tU8) Try.underlying33 rfl (SliceAt.mono hl14 hs5))) ?_
        obtain ⟨x35, hx36, h37⟩ := Option.bind_eq_some_iff.1 h22
        refine wq_val wn rfl (fun _ _ => (rv_rem rfl rfl hx36)) ?_
        obtain ⟨x38, hx39, h40⟩ := Option.bind_eq_some_iff.1 h37
        refine wq_indexAddr (t := tU8) wn rfl Try.underlying33 tf5 rfl rfl (SliceAt.mono hl14 hs5) hx39 ?_
        intro b41 o42 u43 hu44 ha45
        obtain rfl := hu44
        have ha46 : AtK _ b41 o42 [iv8 x38] := ha45
        refine wq_val wn rfl (rq_load1 tf5 rfl (ha46 0 _ rfl)) ?_
        refine wq_val wn rfl (fun _ _ => (rv_b2i Try.underlying5 Try.underlying3 rfl)) ?_
        refine wq_val wn rfl (fun _ _ => (rv_mul rfl rfl)) ?_
        refine wq_val wn rfl (fun _ _ => (rv_move rfl)) ?_
        refine wq_val wn rfl (fun _ _ => (rv_nilCheck rfl)) ?_
        refine wq_val wn rfl (fun _ _ => (rv_fieldAddr ff135_0 rfl)) ?_
        refine wq_val wn rfl (rq_loadm1 tf33 rfl (.head _) rfl) ?_
        refine wq_val wn rfl (fun _ _ => (rv_move rfl)) ?_
        refine wq_val wn rfl (fun _ _ => (rv_mul rfl rfl)) ?_
        refine wq_val wn rfl (fun _ _ => (rv_add rfl rfl)) ?_
        refine wq_val wn rfl (fun _ _ => (rv_move rfl)) ?_
        refine wq_val wn rfl (fun _ _ => (rv_nilCheck rfl)) ?_
        refine wq_val wn rfl (fun _ _ => (rv_fieldAddr ff135_0 rfl)) ?_
        refine wq_val wn rfl (rq_loadm1 tf33 rfl (.head _) rfl) ?_
        refine wq_val wn rfl (fun _ _ => (rv_len (t := tU8) Try.underlying33 rfl (SliceAt.mono hl14 hs5))) ?_
        obtain ⟨x47, hx48, h49⟩ := Option.bind_eq_some_iff.1 h40
        refine wq_val wn rfl (fun _ _ => (rv_rem rfl rfl hx48)) ?_
        obtain ⟨x50, hx51, h52⟩ := Option.bind_eq_some_iff.1 h49
        refine wq_indexAddr (t := tU8) wn rfl Try.underlying33 tf5 rfl rfl (SliceAt.mono hl14 hs5) hx51 ?_
        intro b53 o54 u55 hu56 ha57
        obtain rfl := hu56
        have ha58 : AtK _ b53 o54 [iv8 x50] := ha57
        refine wq_val wn rfl (rq_load1 tf5 rfl (ha58 0 _ rfl)) ?_
        refine wq_val wn rfl (fun _ _ => (rv_b2i Try.underlying5 Try.underlying3 rfl)) ?_
        refine wq_val wn rfl (fun _ _ => (rv_mul rfl rfl)) ?_
        refine wq_val wn rfl (fun _ _ => (rv_add rfl rfl)) ?_
        refine wq_val wn rfl (fun _ _ => (rv_move rfl)) ?_
        refine wq_val wn rfl (fun _ _ => (rv_mul rfl rfl)) ?_
        refine wq_val wn rfl (fun _ _ => (rv_add rfl rfl)) ?_
        refine wq_val wn rfl (fun _ _ => (rv_move rfl)) ?_
        refine wq_val wn rfl (fun _ _ => (rv_move rfl)) ?_
        refine wq_val wn rfl (fun _ _ => (rv_nilCheck rfl)) ?_
        refine wq_val wn rfl (fun _ _ => (rv_fieldAddr ff135_0 rfl)) ?_
        refine wq_val wn rfl (rq_loadm1 tf33 rfl (.head _) rfl) ?_
        refine wq_val wn rfl (fun _ _ => (rv_len (t := tU8) Try.underlying33 rfl (SliceAt.mono hl14 hs5))) ?_
        obtain ⟨x59, hx60, h61⟩ := Option.bind_eq_some_iff.1 h52
        refine wq_val wn rfl (fun _ _ => (rv_quo rfl rfl hx60)) ?_
        refine wq_val wn rfl (fun _ _ => (rv_mul rfl rfl)) ?_
        refine wq_val wn rfl (fun _ _ => (rv_add rfl rfl)) ?_
        obtain ⟨x62, hx63, h64⟩ := Option.bind_eq_some_iff.1 h61
        have e65 := Option.some.inj hx63
        refine wq_val wn rfl (fun _ _ => (rv_as rfl (congrArg (Value.int .i64) e65))) ?_
        refine wq_nil ?_
        rintro w67 ⟨K66, hS68, hl69⟩
        refine qe_seq ?_
        refine wc_seq ?_
        refine wc_region ?_
        refine wl_val wn rfl (rv_move rfl) ?_
        refine wl_val wn rfl (rv_move rfl) ?_
        obtain ⟨x70, hx71, h72⟩ := Option.bind_eq_some_iff.1 h64
        refine wl_val wn rfl (rv_quo rfl rfl hx71) ?_
        refine wl_val wn rfl (rv_xor rfl rfl) ?_
        refine wl_val wn rfl (rv_assign rfl) ?_
        refine wl_nil ?_
        refine qe_seq ?_
        refine wc_seq ?_
        refine wc_region ?_
        refine wl_val wn rfl (rv_move rfl) ?_
        refine wl_val wn rfl (rv_move rfl) ?_
        obtain ⟨x73, hx74, h75⟩ := Option.bind_eq_some_iff.1 h72
        refine wl_val wn rfl (rv_rem rfl rfl hx74) ?_
        refine wl_val wn rfl (rv_assign rfl) ?_
        refine wl_nil ?_
        refine qe_seq ?_
        refine wc_ret ?_
        obtain rfl := Option.some.inj h75
        exact qe_ret (vs := [_]) Try.results56 ⟨rfl, trivial⟩ ⟨a2, n3, c4, K66, rfl, hS68, (rng_rem (w64_rng _) hx74), (SliceAt.mono (hl14.trans hl69) hs5), (w64_rng _)⟩

theorem ok_spec_l30Rd_of (F : Nat) {w : World} {K : KMap} {g1 : Nat} {a2 : Option Addr} {n3 c4 : Nat} {a7 : Option Addr} {n8 c9 : Nat} {p0_r : GL30Rd} {p1_list : List Str} {r : Str × GL30Rd} (hS : SH w K (List.filterMap Item.g [obj g1 [.slice a2 n3 c4, .int .i64 p0_r.p_] 135]) w K [obj g1 [.slice a2 n3 c4, .int .i64 p0_r.p_] 135]) (hs5 : SliceAt tU8 K a2 n3 c4 p0_r.b_) (hr6 : rng64 p0_r.p_) (hs10 : SliceAt tStr K a7 n8 c9 p1_list) (hm : M.spec_l30Rd_of F p0_r p1_list = some r) :
    Calls Try.prog 105 #[.pointer (some ⟨g1, 0, none⟩), .slice a7 n8 c9] w fun e w' => ∃ (a_2 : Option Addr) (n_3 c_4 : Nat) (K' : KMap), e = .returned (sv r.1) ∧ SH w K (List.filterMap Item.g [obj g1 [.slice a2 n3 c4, .int .i64 p0_r.p_] 135]) w' K' [obj g1 [.slice a_2 n_3 c_4, .int .i64 r.2.p_] 135] ∧ r.1.length ≤ maxLen ∧ SliceAt tU8 K' a_2 n_3 c_4 r.2.b_ ∧ rng64 r.2.p_ := by
  rw [M.spec_l30Rd_of] at hm
  refine calls_in Try.func105 rfl Try.ntmps105 rfl ?_
  refine wc_seq ?_
  refine wc_region ?_
  refine wl_val wn rfl (rv_assign (v := sv []) rfl) ?_
  refine wl_nil ?_
  refine qe_seq ?_
  refine wc_seq ?_
  refine wc_region ?_
  refine wl_val wn rfl (rv_move rfl) ?_
  refine wl_val wn rfl (rv_move rfl) ?_
  refine wl_val wn rfl (rv_move rfl) ?_
  refine wl_val wn rfl (rv_len (t := tStr) Try.underlying47 rfl hs10) ?_
  obtain ⟨r11, hx12, h13⟩ := Option.bind_eq_some_iff.1 hm
  refine wl_call wn rfl (rt_call (vs := [.pointer (some ⟨g1, 0, none⟩), .int .i64 (p1_list.length : Int)]) co56 rfl) ((ok_spec_l30Rd_pick F) (SH.enter (Lin := [_]) hS) hs5 hr6 (rng_nat (SliceAt.max hs10)) hx12) ?_
  rintro e23 w15 ⟨a18, n19, c20, K14, rfl, hS16, hr17, hs21, hr22⟩
  refine ⟨_, rfl, ?_⟩
  have hS24 : SH _ _ _ _ _ [_] := SH.call (Lin := [_]) hS hS16
  obtain ⟨x25, hx26, h27⟩ := Option.bind_eq_some_iff.1 h13
  refine wl_indexAddr (t := tStr) wn rfl Try.underlying47 tf9 rfl rfl (SliceAt.mono hS16.le hs10) hx26 ?_
  intro b28 o29 u30 hu31 ha32
  obtain ⟨rfl, hl33⟩ := hu31
  have ha34 : AtK _ b28 o29 [sv x25] := ha32
  refine wl_val wn rfl (rv_load1 tf9 rfl hS24 (ha34 0 _ rfl)) ?_
  refine wl_val wn rfl (rv_assign rfl) ?_
  refine wl_nil ?_
  refine qe_seq ?_
  refine wc_ret ?_
  obtain rfl := Option.some.inj h27
  exact qe_ret (vs := [_]) Try.results105 ⟨rfl, trivial⟩ ⟨a18, n19, c20, K14, rfl, hS24, hl33, hs21, hr22⟩

theorem ok_spec_l30Raw (F : Nat) {w : World} {K : KMap} {g1 : Nat} {a2 : Option Addr} {n3 c4 : Nat} {p0_r : GL30Rd} {r : Str × GL30Rd} (hS : SH w K (List.filterMap Item.g [obj g1 [.slice a2 n3 c4, .int .i64 p0_r.p_] 135]) w K [obj g1 [.slice a2 n3 c4, .int .i64 p0_r.p_] 135]) (hs5 : SliceAt tU8 K a2 n3 c4 p0_r.b_) (hr6 : rng64 p0_r.p_) (hm : M.spec_l30Raw F p0_r = some r) :
    Calls Try.prog 152 #[.pointer (some ⟨g1, 0, none⟩)] w fun e w' => ∃ (a_2 : Option Addr) (n_3 c_4 : Nat) (K' : KMap), e = .returned (sv r.1) ∧ SH w K (List.filterMap Item.g [obj g1 [.slice a2 n3 c4, .int .i64 p0_r.p_] 135]) w' K' [obj g1 [.slice a_2 n_3 c_4, .int .i64 r.2.p_] 135] ∧ r.1.length ≤ maxLen ∧ SliceAt tU8 K' a_2 n_3 c_4 r.2.b_ ∧ rng64 r.2.p_ := by
  rw [M.spec_l30Raw] at hm
  refine calls_in Try.func152 rfl Try.ntmps152 rfl ?_
  refine wc_seq ?_
  refine wc_region ?_
  refine wl_val wn rfl (rv_assign (v := sv []) rfl) ?_
  refine wl_nil ?_
  refine qe_seq ?_
  refine wc_seq ?_
  refine wc_region ?_
  refine wl_val wn rfl (rv_move rfl) ?_
  refine wl_buildSlice (t := tStr) (n := 16) (pv := [(0, sv [99, 97, 116]), (1, sv [67, 97, 116, 115]), (2, sv [100, 111, 103]), (3, sv [100, 111, 103, 115]), (4, sv [114, 117, 110]), (5, sv [82, 85, 78, 78, 73, 78, 71]), (6, sv [116, 104, 101]), (7, sv [114, 101, 100]), (8, sv [98, 105, 103]), (9, sv [110, 101, 119, 32, 121, 111, 114, 107]), (10, sv [78, 101, 119, 32, 32, 89, 111, 114, 107]), (11, sv [110, 121]), (12, sv [102, 111, 120]), (13, sv [112, 97, 115, 115, 101, 100]), (14, sv [120, 49]), (15, sv [97, 118, 101, 114, 121, 118, 101, 114, 121, 108, 111, 110, 103, 119, 111, 114, 100])]) (cs := [sv [99, 97, 116], sv [67, 97, 116, 115], sv [100, 111, 103], sv [100, 111, 103, 115], sv [114, 117, 110], sv [82, 85, 78, 78, 73, 78, 71], sv [116, 104, 101], sv [114, 101, 100], sv [98, 105, 103], sv [110, 101, 119, 32, 121, 111, 114, 107], sv [78, 101, 119, 32, 32, 89, 111, 114, 107], sv [110, 121], sv [102, 111, 120], sv [112, 97, 115, 115, 101, 100], sv [120, 49], sv [97, 118, 101, 114, 121, 118, 101, 114, 121, 108, 111, 110, 103, 119, 111, 114, 100]]) (xs := [([99, 97, 116] : Str), ([67, 97, 116, 115] : Str), ([100, 111, 103] : Str), ([100, 111, 103, 115] : Str), ([114, 117, 110] : Str), ([82, 85, 78, 78, 73, 78, 71] : Str), ([116, 104, 101] : Str), ([114, 101, 100] : Str), ([98, 105, 103] : Str), ([110, 101, 119, 32, 121, 111, 114, 107] : Str), ([78, 101, 119, 32, 32, 89, 111, 114, 107] : Str), ([110, 121] : Str), ([102, 111, 120] : Str), ([112, 97, 115, 115, 101, 100] : Str), ([120, 49] : Str), ([97, 118, 101, 114, 121, 118, 101, 114, 121, 108, 111, 110, 103, 119, 111, 114, 100] : Str)]) wn rfl Try.underlying47 tf9 rfl rfl rfl (by kernel_rfl) rfl rfl (lit_cons (u := sv [99, 97, 116]) (z := ([99, 97, 116] : Str)) ⟨rfl, (by decide : ([99, 97, 116] : Str).length ≤ maxLen)⟩ (lit_cons (u := sv [67, 97, 116, 115]) (z := ([67, 97, 116, 115] : Str)) ⟨rfl, (by decide : ([67, 97, 116, 115] : Str).length ≤ maxLen)⟩ (lit_cons (u := sv [100, 111, 103]) (z := ([100, 111, 103] : Str)) ⟨rfl, (by decide : ([100, 111, 103] : Str).length ≤ maxLen)⟩ (lit_cons (u := sv [100, 111, 103, 115]) (z := ([100, 111, 103, 115] : Str)) ⟨rfl, (by decide : ([100, 111, 103, 115] : Str).length ≤ maxLen)⟩ (lit_cons (u := sv [114, 117, 110]) (z := ([114, 117, 110] : Str)) ⟨rfl, (by decide : ([114, 117, 110] : Str).length ≤ maxLen)⟩ (lit_cons (u := sv [82, 85, 78, 78, 73, 78, 71]) (z := ([82, 85, 78, 78, 73, 78, 71] : Str)) ⟨rfl, (by decide : ([82, 85, 78, 78, 73, 78, 71] : Str).length ≤ maxLen)⟩ (lit_cons (u := sv [116, 104, 101]) (z := ([116, 104, 101] : Str)) ⟨rfl, (by decide : ([116, 104, 101] : Str).length ≤ maxLen)⟩ (lit_cons (u := sv [114, 101, 100]) (z := ([114, 101, 100] : Str)) ⟨rfl, (by decide : ([114, 101, 100] : Str).length ≤ maxLen)⟩ (lit_cons (u := sv [98, 105, 103]) (z := ([98, 105, 103] : Str)) ⟨rfl, (by decide : ([98, 105, 103] : Str).length ≤ maxLen)⟩ (lit_cons (u := sv [110, 101, 119, 32, 121, 111, 114, 107]) (z := ([110, 101, 119, 32, 121, 111, 114, 107] : Str)) ⟨rfl, (by decide : ([110, 101, 119, 32, 121, 111, 114, 107] : Str).length ≤ maxLen)⟩ (lit_cons (u := sv [78, 101, 119, 32, 32, 89, 111, 114, 107]) (z := ([78, 101, 119, 32, 32, 89, 111, 114, 107] : Str)) ⟨rfl, (by decide : ([78, 101, 119, 32, 32, 89, 111, 114, 107] : Str).length ≤ maxLen)⟩ (lit_cons (u := sv [110, 121]) (z := ([110, 121] : Str)) ⟨rfl, (by decide : ([110, 121] : Str).length ≤ maxLen)⟩ (lit_cons (u := sv [102, 111, 120]) (z := ([102, 111, 120] : Str)) ⟨rfl, (by decide : ([102, 111, 120] : Str).length ≤ maxLen)⟩ (lit_cons (u := sv [112, 97, 115, 115, 101, 100]) (z := ([112, 97, 115, 115, 101, 100] : Str)) ⟨rfl, (by decide : ([112, 97, 115, 115, 101, 100] : Str).length ≤ maxLen)⟩ (lit_cons (u := sv [120, 49]) (z := ([120, 49] : Str)) ⟨rfl, (by decide : ([120, 49] : Str).length ≤ maxLen)⟩ (lit_cons (u := sv [97, 118, 101, 114, 121, 118, 101, 114, 121, 108, 111, 110, 103, 119, 111, 114, 100]) (z := ([97, 118, 101, 114, 121, 118, 101, 114, 121, 108, 111, 110, 103, 119, 111, 114, 100] : Str)) ⟨rfl, (by decide : ([97, 118, 101, 114, 121, 118, 101, 114, 121, 108, 111, 110, 103, 119, 111, 114, 100] : Str).length ≤ maxLen)⟩ lit_nil)))))))))))))))) hS ?_
  intro a7 w8 K9 hl10 hs11 hS12
  obtain ⟨r13, hx14, h15⟩ := Option.bind_eq_some_iff.1 hm
  have hS16 : SH _ _ _ _ _ [_, _] := SH.front (p := [_]) hS12
  refine wl_call wn rfl (rt_call (vs := [.pointer (some ⟨g1, 0, none⟩), .slice a7 16 16]) co105 rfl) ((ok_spec_l30Rd_of F) (SH.enter (Lin := [_]) hS16) (SliceAt.mono hl10 hs5) hr6 hs11 hx14) ?_
  rintro e26 w18 ⟨a21, n22, c23, K17, rfl, hS19, hl20, hs24, hr25⟩
  refine ⟨_, rfl, ?_⟩
  have hS27 : SH _ _ _ _ _ [_, _] := SH.call (Lin := [_]) hS16 hS19
  refine wl_val wn rfl (rv_assign rfl) ?_
  refine wl_nil ?_
  refine qe_seq ?_
  refine wc_ret ?_
  obtain rfl := Option.some.inj h15
  have hS28 : SH _ _ _ _ _ [_] := SH.sublist hS27 (.cons_cons _ (.cons _ .slnil))
  exact qe_ret (vs := [_]) Try.results152 ⟨rfl, trivial⟩ ⟨a21, n22, c23, K17, rfl, hS28, hl20, hs24, hr25⟩

theorem ok_spec_l30Text (F : Nat) {w : World} {K : KMap} {g1 : Nat} {a2 : Option Addr} {n3 c4 : Nat} {p0_r : GL30Rd} {r : Str × GL30Rd} (hS : SH w K (List.filterMap Item.g [obj g1 [.slice a2 n3 c4, .int .i64 p0_r.p_] 135]) w K [obj g1 [.slice a2 n3 c4, .int .i64 p0_r.p_] 135]) (hs5 : SliceAt tU8 K a2 n3 c4 p0_r.b_) (hr6 : rng64 p0_r.p_) (hm : M.spec_l30Text F p0_r = some r) :
    Calls Try.prog 141 #[.pointer (some ⟨g1, 0, none⟩)] w fun e w' => ∃ (a_2 : Option Addr) (n_3 c_4 : Nat) (K' : KMap), e = .returned (sv r.1) ∧ SH w K (List.filterMap Item.g [obj g1 [.slice a2 n3 c4, .int .i64 p0_r.p_] 135]) w' K' [obj g1 [.slice a_2 n_3 c_4, .int .i64 r.2.p_] 135] ∧ r.1.length ≤ maxLen ∧ SliceAt tU8 K' a_2 n_3 c_4 r.2.b_ ∧ rng64 r.2.p_ := by
  rw [M.spec_l30Text] at hm
  refine calls_in Try.func141 rfl Try.ntmps141 rfl ?_
  refine wc_seq ?_
  refine wc_region ?_
  refine wl_val wn rfl (rv_assign (v := sv []) rfl) ?_
  refine wl_nil ?_
  refine qe_seq ?_
  refine wc_seq ?_
  refine wc_region ?_
  refine wl_val wn rfl (rv_assign (v := sv []) rfl) ?_
  refine wl_nil ?_
  refine qe_seq ?_
  refine wc_seq ?_
  refine wc_seq ?_
  refine wc_region ?_
  refine wl_val wn rfl (rv_move rfl) ?_
  obtain ⟨r7, hx8, h9⟩ := Option.bind_eq_some_iff.1 hm
  refine wl_call wn rfl (rt_call (vs := [.pointer (some ⟨g1, 0, none⟩), .int .i64 9]) co56 rfl) ((ok_spec_l30Rd_pick F) (SH.enter (Lin := [_]) hS) hs5 hr6 (by decide : rng64 9) hx8) ?_
  rintro e19 w11 ⟨a14, n15, c16, K10, rfl, hS12, hr13, hs17, hr18⟩
  refine ⟨_, rfl, ?_⟩
  have hS20 : SH _ _ _ _ _ [_] := SH.call (Lin := [_]) hS hS12
  refine wl_val wn rfl (rv_assign rfl) ?_
  refine wl_nil ?_
  refine qe_seq ?_
  obtain ⟨o21, h22, h23⟩ := Option.bind_eq_some_iff.1 h9
  refine wc_cutg (fun E' w' => ∃ (a29 : Option Addr) (n30 c31 : Nat) (K24 : KMap), E' = [(0, .pointer (some ⟨g1, 0, none⟩)), (3, sv o21.1)] ∧ SH w K (List.filterMap Item.g [obj g1 [.slice a2 n3 c4, .int .i64 p0_r.p_] 135]) w' K24 [obj g1 [.slice a29 n30 c31, .int .i64 o21.2.p_] 135] ∧ KLe K10 K24 ∧ o21.1.length ≤ maxLen ∧ SliceAt tU8 K24 a29 n30 c31 o21.2.b_ ∧ rng64 o21.2.p_) ?_ ?_
  · refine wc_block ?_
    obtain ⟨r35, h36, h37⟩ := Option.bind_eq_some_iff.1 h22
    refine wc_while' (fun (s34 : Str × Int × GL30Rd) E' w' => ∃ (a44 : Option Addr) (n45 c46 : Nat) (K38 : KMap), E' = [(0, .pointer (some ⟨g1, 0, none⟩)), (3, sv s34.1), (4, .int .i64 s34.2.1)] ∧ SH w K (List.filterMap Item.g [obj g1 [.slice a2 n3 c4, .int .i64 p0_r.p_] 135]) w' K38 [obj g1 [.slice a44 n45 c46, .int .i64 s34.2.2.p_] 135] ∧ KLe K10 K38 ∧ s34.1.length ≤ maxLen ∧ rng64 s34.2.1 ∧ SliceAt tU8 K38 a44 n45 c46 s34.2.2.b_ ∧ rng64 s34.2.2.p_) h36 ⟨a14, n15, c16, K10, rfl, hS20, (KLe.refl _), (by decide : ([] : Str).length ≤ maxLen), hr13, hs17, hr18⟩ ⟨rfl, rfl, rfl, trivial⟩ ?_
    rintro s34 _ w40 r49 h50 hx51 ⟨a44, n45, c46, K38, rfl, hS41, hl39, hl42, hr43, hs47, hr48⟩
    refine wc_seq ?_
    refine wc_seq ?_
    refine wc_region ?_
    refine wl_val wn rfl (rv_move rfl) ?_
    refine wl_val wn rfl (rv_gtr rfl rfl) ?_
    refine wl_nil ?_
    refine qe_seq ?_
    refine wc_cond rfl (fun hb52 => ?_) (fun hb52 => ?_)
    · have h53 := cond_t hb52 h50
      refine wc_skip ?_
      refine qe_seq ?_
      refine wc_seq ?_
      refine wc_block ?_
      refine wc_region ?_
      refine wl_val wn rfl (rv_move rfl) ?_
      refine wl_val wn rfl (rv_move rfl) ?_
      obtain ⟨r54, hx55, h56⟩ := Option.bind_eq_some_iff.1 h53
      refine wl_call wn rfl (rt_call (vs := [.pointer (some ⟨g1, 0, none⟩)]) co152 rfl) ((ok_spec_l30Raw F) (SH.enter (Lin := [_]) hS41) hs47 hr48 hx55) ?_
      rintro e66 w58 ⟨a61, n62, c63, K57, rfl, hS59, hl60, hs64, hr65⟩
      refine ⟨_, rfl, ?_⟩
      have hS67 : SH _ _ _ _ _ [_] := SH.call (Lin := [_]) hS41 hS59
      obtain ⟨x68, hx69, h70⟩ := Option.bind_eq_some_iff.1 h56
      refine wl_val wn rfl (rv_sadd rfl rfl hx69) ?_
      refine wl_val wn rfl (rv_move rfl) ?_
      refine wl_buildSlice (t := tStr) (n := 5) (pv := [(0, sv [32]), (1, sv [32]), (2, sv [44, 32]), (3, sv [45]), (4, sv [46, 32])]) (cs := [sv [32], sv [32], sv [44, 32], sv [45], sv [46, 32]]) (xs := [([32] : Str), ([32] : Str), ([44, 32] : Str), ([45] : Str), ([46, 32] : Str)]) wn rfl Try.underlying47 tf9 rfl rfl rfl (by kernel_rfl) rfl rfl (lit_cons (u := sv [32]) (z := ([32] : Str)) ⟨rfl, (by decide : ([32] : Str).length ≤ maxLen)⟩ (lit_cons (u := sv [32]) (z := ([32] : Str)) ⟨rfl, (by decide : ([32] : Str).length ≤ maxLen)⟩ (lit_cons (u := sv [44, 32]) (z := ([44, 32] : Str)) ⟨rfl, (by decide : ([44, 32] : Str).length ≤ maxLen)⟩ (lit_cons (u := sv [45]) (z := ([45] : Str)) ⟨rfl, (by decide : ([45] : Str).length ≤ maxLen)⟩ (lit_cons (u := sv [46, 32]) (z := ([46, 32] : Str)) ⟨rfl, (by decide : ([46, 32] : Str).length ≤ maxLen)⟩ lit_nil))))) hS67 ?_
      intro a71 w72 K73 hl74 hs75 hS76
      obtain ⟨r77, hx78, h79⟩ := Option.bind_eq_some_iff.1 h70
      have hS80 : SH _ _ _ _ _ [_, _] := SH.front (p := [_]) hS76
      refine wl_call wn rfl (rt_call (vs := [.pointer (some ⟨g1, 0, none⟩), .slice a71 5 5]) co105 rfl) ((ok_spec_l30Rd_of F) (SH.enter (Lin := [_]) hS80) (SliceAt.mono hl74 hs64) hr65 hs75 hx78) ?_
      rintro e90 w82 ⟨a85, n86, c87, K81, rfl, hS83, hl84, hs88, hr89⟩
      refine ⟨_, rfl, ?_⟩
      have hS91 : SH _ _ _ _ _ [_, _] := SH.call (Lin := [_]) hS80 hS83
      obtain ⟨x92, hx93, h94⟩ := Option.bind_eq_some_iff.1 h79
      refine wl_val wn rfl (rv_sadd rfl rfl hx93) ?_
      refine wl_val wn rfl (rv_assign rfl) ?_
      refine wl_nil ?_
      refine qe_block ?_
      refine qe_seq ?_
      refine wc_region ?_
      refine wl_val wn rfl (rv_move rfl) ?_
      refine wl_val wn rfl (rv_sub rfl rfl) ?_
      refine wl_val wn rfl (rv_assign rfl) ?_
      refine wl_nil ?_
      obtain rfl := Option.some.inj h94
      have hS95 : SH _ _ _ _ _ [_] := SH.sublist hS91 (.cons_cons _ (.cons _ .slnil))
      exact qe_mid' ⟨_, rfl, a85, n86, c87, K81, rfl, hS95, (((hl39.trans hS59.le).trans hl74).trans hS83.le), (len_cat hx93), (w64_rng _), hs88, hr89⟩ ⟨rfl, rfl, rfl, trivial⟩
    · have h53 := cond_f hb52 h50
      refine wc_exit ?_
      refine qe_then_exit ?_
      refine qe_then_exit ?_
      obtain rfl := Option.some.inj h53
      have e96 := hx51 _ rfl
      subst e96
      refine qe_block_eq ?_
      obtain rfl := Option.some.inj h37
      exact qe_mid' ⟨a44, n45, c46, K38, rfl, hS41, hl39, hl42, hs47, hr48⟩ ⟨rfl, rfl, trivial⟩
  · rintro _ w26 ⟨a29, n30, c31, K24, rfl, hS27, hl25, hl28, hs32, hr33⟩
    refine qe_seq ?_
    refine wc_seq ?_
    refine wc_region ?_
    refine wl_val wn rfl (rv_move rfl) ?_
    refine wl_val wn rfl (rv_assign rfl) ?_
    refine wl_nil ?_
    refine qe_seq ?_
    refine wc_ret ?_
    obtain rfl := Option.some.inj h23
    exact qe_ret (vs := [_]) Try.results141 ⟨rfl, trivial⟩ ⟨a29, n30, c31, K24, rfl, hS27, hl28, hs32, hr33⟩

theorem ok_spec_l30Doc (F : Nat) {w : World} {K : KMap} {g1 : Nat} {a2 : Option Addr} {n3 c4 : Nat} {p0_r : GL30Rd} {p1_id : Int} {r : GDoc × GL30Rd} (hS : SH w K (List.filterMap Item.g [obj g1 [.slice a2 n3 c4, .int .i64 p0_r.p_] 135]) w K [obj g1 [.slice a2 n3 c4, .int .i64 p0_r.p_] 135]) (hs5 : SliceAt tU8 K a2 n3 c4 p0_r.b_) (hr6 : rng64 p0_r.p_) (hr7 : rng64 p1_id) (hm : M.spec_l30Doc F p0_r p1_id = some r) :
    Calls Try.prog 126 #[.pointer (some ⟨g1, 0, none⟩), .int .i64 p1_id] w fun e w' => ∃ (a_2 : Option Addr) (n_3 c_4 : Nat) (a_6 : Option Addr) (n_7 c_8 : Nat) (a_10 : Option Addr) (n_11 c_12 : Nat) (K' : KMap), e = .returned (.agg #[.int .i64 r.1.Id, .slice a_2 n_3 c_4, .slice a_6 n_7 c_8]) ∧ SH w K (List.filterMap Item.g [obj g1 [.slice a2 n3 c4, .int .i64 p0_r.p_] 135]) w' K' [tail (.slice a_2 n_3 c_4) 96 2, tail (.slice a_6 n_7 c_8) 98 2, obj g1 [.slice a_10 n_11 c_12, .int .i64 r.2.p_] 135] ∧ rng64 r.1.Id ∧ SliceAt tGField K' a_2 n_3 c_4 r.1.Fields ∧ SliceAt tGAttr K' a_6 n_7 c_8 r.1.Nums ∧ SliceAt tU8 K' a_10 n_11 c_12 r.2.b_ ∧ rng64 r.2.p_ := by
  rw [M.spec_l30Doc] at hm
  refine calls_in Try.func126 rfl Try.ntmps126 rfl ?_
  refine wc_seq ?_
  refine wc_region ?_
  refine wl_alloc wn rfl tf43 hS ?_
  intro g8 w9 hS10
  have hS11 : SH _ _ _ _ _ [obj g8 [.int .i64 0, .slice none 0 0, .slice none 0 0] 43, _] := hS10
  refine wl_nil ?_
  refine qe_seq ?_
  refine wc_seq ?_
  refine wc_region ?_
  refine wl_val wn rfl (rv_move rfl) ?_
  refine wl_val wn rfl (rv_build (cs := #[.int .i64 p1_id, .slice none 0 0, .slice none 0 0]) sp43 tf43 rfl (by kernel_rfl)) ?_
  refine wl_alloc wn rfl tf43 hS11 ?_
  intro g12 w13 hS14
  have hS15 : SH _ _ _ _ _ [obj g12 [.int .i64 0, .slice none 0 0, .slice none 0 0] 43, _, _] := hS14
  refine wl_store (cs' := [.int .i64 p1_id, .slice none 0 0, .slice none 0 0]) (v := .agg #[.int .i64 p1_id, .slice none 0 0, .slice none 0 0]) wn tf43 rfl rfl rfl (by simp [Value.cells, Value.oneCell']) hS15 rfl rfl ?_
  intro w16 hS17
  refine wl_nil ?_
  refine qe_seq ?_
  refine wc_seq ?_
  refine wc_seq ?_
  refine wc_region ?_
  refine wl_val wn rfl (rv_move rfl) ?_
  obtain ⟨r18, hx19, h20⟩ := Option.bind_eq_some_iff.1 hm
  have hS21 : SH _ _ _ _ _ [_, _, _] := SH.front (p := [_, _]) hS17
  refine wl_call wn rfl (rt_call (vs := [.pointer (some ⟨g1, 0, none⟩), .int .i64 6]) co56 rfl) ((ok_spec_l30Rd_pick F) (SH.enter (Lin := [_]) hS21) hs5 hr6 (by decide : rng64 6) hx19) ?_
  rintro e31 w23 ⟨a26, n27, c28, K22, rfl, hS24, hr25, hs29, hr30⟩
  refine ⟨_, rfl, ?_⟩
  have hS32 : SH _ _ _ _ _ [_, _, _] := SH.call (Lin := [_]) hS21 hS24
  refine wl_val wn rfl (rv_gtr rfl rfl) ?_
  refine wl_nil ?_
  refine qe_seq ?_
  obtain ⟨o33, h34, h35⟩ := Option.bind_eq_some_iff.1 h20
  refine wc_cutg (fun E' w' => ∃ (a40 : Option Addr) (n41 c42 : Nat) (a46 : Option Addr) (n47 c48 : Nat) (a50 : Option Addr) (n51 c52 : Nat) (K36 : KMap), E' = [(0, .pointer (some ⟨g1, 0, none⟩)), (4, .pointer (some ⟨g8, 0, none⟩)), (5, .pointer (some ⟨g12, 0, none⟩))] ∧ SH w K (List.filterMap Item.g [obj g1 [.slice a2 n3 c4, .int .i64 p0_r.p_] 135]) w' K36 [obj g1 [.slice a40 n41 c42, .int .i64 o33.1.p_] 135, obj g8 [.int .i64 0, .slice none 0 0, .slice none 0 0] 43, obj g12 [.int .i64 o33.2.Id, .slice a46 n47 c48, .slice a50 n51 c52] 43, tail (.slice a46 n47 c48) 96 2, tail (.slice a50 n51 c52) 98 2] ∧ KLe K22 K36 ∧ SliceAt tU8 K36 a40 n41 c42 o33.1.b_ ∧ rng64 o33.1.p_ ∧ rng64 o33.2.Id ∧ SliceAt tGField K36 a46 n47 c48 o33.2.Fields ∧ SliceAt tGAttr K36 a50 n51 c52 o33.2.Nums) ?_ ?_
  · refine wc_cond rfl (fun hb54 => ?_) (fun hb54 => ?_)
    · have h55 := cond_t hb54 h34
      refine wc_held (fun w' => Holds K22 w') (fun w' => HasObj g12 [.int .i64 p1_id, .slice none 0 0, .slice none 0 0] w') 8 [(1, 6), (1, 7), (1, 8), (6, 7), (6, 8), (7, 8)] mixed ?_
      have hS57 := SH.drew hS32
      refine wg_val (i := 0) (listed' := #[true, false, false, false, false, false, false, false, false]) (fun _ => True) rfl (by kernel_rfl) (pk_then (pk_then pk_body)) (by kernel_rfl) rfl (by kernel_rfl) (by kernel_rfl) rfl (.inl fun _ _ => trivial) ⟨(hS57.hasK (KLe.refl _)), (fun _ => hS57.hasObj (.tail _ (.head _))), by decide⟩ wn rfl (fun _ _ => (rv_fieldAddr ff43_1 rfl)) ?_
      refine wg_val (i := 1) (listed' := #[true, true, false, false, false, false, false, false, false]) (HasObj g12 [.int .i64 p1_id, .slice none 0 0, .slice none 0 0]) rfl (by kernel_rfl) (pk_then (pk_then pk_body)) (by kernel_rfl) rfl (by kernel_rfl) (by kernel_rfl) rfl (.inr ⟨rfl, fun _ _ h => h⟩) ⟨(hS57.hasK (KLe.refl _)), (fun _ => hS57.hasObj (.tail _ (.head _))), by decide⟩ wn rfl (fun _ h => rh_loadm1 tf40 rfl rfl h) ?_
      refine wg_val (i := 2) (listed' := #[true, true, true, false, false, false, false, false, false]) (fun _ => True) rfl (by kernel_rfl) (pk_then (pk_then pk_body)) (by kernel_rfl) rfl (by kernel_rfl) (by kernel_rfl) rfl (.inl fun _ _ => trivial) ⟨(hS57.hasK (KLe.refl _)), (fun _ => hS57.hasObj (.tail _ (.head _))), by decide⟩ wn rfl (fun _ _ => (rv_move rfl)) ?_
      refine wg_one (i := 3) (by kernel_rfl) rfl ?_
      obtain ⟨r58, hx59, h60⟩ := Option.bind_eq_some_iff.1 h55
      refine wl_call wn rfl (rt_call (vs := [.pointer (some ⟨g1, 0, none⟩)]) co141 rfl) ((ok_spec_l30Text F) (SH.enter (Lin := [_]) hS57) hs29 hr30 hx59) ?_
      rintro e70 w62 ⟨a65, n66, c67, K61, rfl, hS63, hl64, hs68, hr69⟩
      refine ⟨_, rfl, ?_⟩
      have hS71 : SH _ _ _ _ _ [_, _, _] := SH.call (Lin := [_]) hS57 hS63
      refine wl_nil (qe_held (listed' := #[true, true, true, true, false, false, false, false, false]) rfl ⟨(hS71.hasK hS63.le), (fun _ => hS71.hasObj (.tail _ (.head _))), by decide⟩ ?_)
      refine wg_val (i := 4) (listed' := #[true, true, true, true, true, false, false, false, false]) (fun _ => True) rfl (by kernel_rfl) (pk_then (pk_then pk_body)) (by kernel_rfl) rfl (by kernel_rfl) (by kernel_rfl) rfl (.inl fun _ _ => trivial) ⟨(hS71.hasK hS63.le), (fun _ => hS71.hasObj (.tail _ (.head _))), by decide⟩ wn rfl (fun _ _ => (rv_build (cs := #[sv [98, 111, 100, 121], sv r58.1]) sp96 tf96 rfl (by kernel_rfl))) ?_
      refine wg_one (i := 5) (by kernel_rfl) rfl ?_
      refine wl_buildSlice (t := tGField) (n := 1) (pv := [(0, .agg #[sv [98, 111, 100, 121], sv r58.1])]) (cs := [sv [98, 111, 100, 121], sv r58.1]) (xs := [(GField.mk ([98, 111, 100, 121] : Str) r58.1)]) wn rfl Try.underlying40 tf96 rfl rfl rfl (by kernel_rfl) rfl rfl (lit_cons (u := .agg #[sv [98, 111, 100, 121], sv r58.1]) (z := (GField.mk ([98, 111, 100, 121] : Str) r58.1)) ⟨rfl, (by decide : ([98, 111, 100, 121] : Str).length ≤ maxLen), hl64⟩ lit_nil) hS71 ?_
      intro a72 w73 K74 hl75 hs76 hS77
      refine wl_nil (qe_held (listed' := #[true, true, true, true, true, true, false, false, false]) rfl ⟨(hS77.hasK (hS63.le.trans hl75)), (fun _ => hS77.hasObj (.tail _ (.tail _ (.head _)))), by decide⟩ ?_)
      refine wg_one (i := 6) (by kernel_rfl) rfl ?_
      have hS78 := SH.nil hS77 96 2
      obtain ⟨x79, hx80, h81⟩ := Option.bind_eq_some_iff.1 h60
      refine wl_append (t := tGField) wn rfl Try.underlying40 tf96 rfl rfl rfl rfl rfl (SliceAt.nil _ _) hs76 hx80 hS78 ?_
      intro a82 n83 c84 w85 K86 hl87 hs88 hS89
      refine wl_nil (qe_held (listed' := #[true, true, true, true, true, true, true, false, false]) rfl ⟨(hS89.hasK ((hS63.le.trans hl75).trans hl87)), (fun _ => hS89.hasObj (.tail _ (.tail _ (.tail _ (.head _))))), by decide⟩ ?_)
      refine wg_val (i := 7) (listed' := #[true, true, true, true, true, true, true, true, false]) (fun _ => True) rfl (by kernel_rfl) (pk_then (pk_then pk_body)) (by kernel_rfl) rfl (by kernel_rfl) (by kernel_rfl) rfl (.inl fun _ _ => trivial) ⟨(hS89.hasK ((hS63.le.trans hl75).trans hl87)), (fun _ => hS89.hasObj (.tail _ (.tail _ (.tail _ (.head _))))), by decide⟩ wn rfl (fun _ _ => (rv_fieldAddr ff43_1 rfl)) ?_
      refine wg_one (i := 8) (by kernel_rfl) rfl ?_
      have hS90 : SH _ _ _ _ _ [_, _, _, _, _] := SH.front (p := [_, _, _]) hS89
      refine wl_store (cs' := [.int .i64 p1_id, .slice a82 n83 c84, .slice none 0 0]) (v := .slice a82 n83 c84) wn tf40 rfl rfl rfl (by simp [Value.cells, Value.oneCell']) hS90 rfl rfl ?_
      intro w91 hS92
      refine wl_nil (qe_held (listed' := #[true, true, true, true, true, true, true, true, true]) rfl ⟨(hS92.hasK ((hS63.le.trans hl75).trans hl87)), (fun h => by cases h), by decide⟩ ?_)
      refine wg_done (by kernel_rfl) ?_
      obtain rfl := Option.some.inj h81
      have hS93 := SH.nil hS92 98 2
      have hS94 : SH _ _ _ _ _ [_, _, _, _, _, _] := SH.front (p := [_, _]) hS93
      have hS95 : SH _ _ _ _ _ [_, _, _, _, _, _] := SH.front (p := [_, _]) hS94
      have hS96 : SH _ _ _ _ _ [_, _, _, _, _, _] := SH.front (p := [_, _, _, _, _]) hS95
      have hS97 : SH _ _ _ _ _ [_, _, _, _, _, _] := SH.front (p := [_, _, _, _, _]) hS96
      have hS98 : SH _ _ _ _ _ [_, _, _, _, _] := SH.sublist hS97 (.cons_cons _ (.cons_cons _ (.cons_cons _ (.cons_cons _ (.cons_cons _ (.cons _ .slnil))))))
      exact qe_mid' ⟨a65, n66, c67, a82, n83, c84, none, 0, 0, K86, rfl, hS98, ((hS63.le.trans hl75).trans hl87), (SliceAt.mono (hl75.trans hl87) hs68), hr69, hr7, hs88, (SliceAt.nil _ _)⟩ ⟨rfl, rfl, rfl, trivial⟩
    · have h55 := cond_f hb54 h34
      refine wc_skip ?_
      obtain rfl := Option.some.inj h55
      have hS99 := SH.nil hS32 96 2
      have hS100 := SH.nil hS99 98 2
      have hS101 : SH _ _ _ _ _ [_, _, _, _, _] := SH.front (p := [_]) hS100
      have hS102 : SH _ _ _ _ _ [_, _, _, _, _] := SH.front (p := [_, _, _]) hS101
      have hS103 : SH _ _ _ _ _ [_, _, _, _, _] := SH.front (p := [_, _, _, _]) hS102
      have hS104 : SH _ _ _ _ _ [_, _, _, _, _] := SH.front (p := [_, _, _, _]) hS103
      exact qe_mid' ⟨a26, n27, c28, none, 0, 0, none, 0, 0, K22, rfl, hS104, (KLe.refl _), hs29, hr30, hr7, (SliceAt.nil _ _), (SliceAt.nil _ _)⟩ ⟨rfl, rfl, rfl, trivial⟩
  · rintro _ w38 ⟨a40, n41, c42, a46, n47, c48, a50, n51, c52, K36, rfl, hS39, hl37, hs43, hr44, hr45, hs49, hs53⟩
    refine qe_seq ?_
    refine wc_seq ?_
    refine wc_seq ?_
    refine wc_region ?_
    refine wl_val wn rfl (rv_move rfl) ?_
    obtain ⟨r105, hx106, h107⟩ := Option.bind_eq_some_iff.1 h35
    refine wl_call wn rfl (rt_call (vs := [.pointer (some ⟨g1, 0, none⟩), .int .i64 3]) co56 rfl) ((ok_spec_l30Rd_pick F) (SH.enter (Lin := [_]) hS39) hs43 hr44 (by decide : rng64 3) hx106) ?_
    rintro e117 w109 ⟨a112, n113, c114, K108, rfl, hS110, hr111, hs115, hr116⟩
    refine ⟨_, rfl, ?_⟩
    have hS118 : SH _ _ _ _ _ [_, _, _, _, _] := SH.call (Lin := [_]) hS39 hS110
    refine wl_val wn rfl (rv_eql rfl rfl) ?_
    refine wl_nil ?_
    refine qe_seq ?_
    obtain ⟨o119, h120, h121⟩ := Option.bind_eq_some_iff.1 h107
    refine wc_cutg (fun E' w' => ∃ (a126 : Option Addr) (n127 c128 : Nat) (a132 : Option Addr) (n133 c134 : Nat) (a136 : Option Addr) (n137 c138 : Nat) (K122 : KMap), E' = [(0, .pointer (some ⟨g1, 0, none⟩)), (4, .pointer (some ⟨g8, 0, none⟩)), (5, .pointer (some ⟨g12, 0, none⟩))] ∧ SH w K (List.filterMap Item.g [obj g1 [.slice a2 n3 c4, .int .i64 p0_r.p_] 135]) w' K122 [obj g1 [.slice a126 n127 c128, .int .i64 o119.1.p_] 135, obj g8 [.int .i64 0, .slice none 0 0, .slice none 0 0] 43, obj g12 [.int .i64 o119.2.Id, .slice a132 n133 c134, .slice a136 n137 c138] 43, tail (.slice a132 n133 c134) 96 2, tail (.slice a136 n137 c138) 98 2] ∧ KLe K108 K122 ∧ SliceAt tU8 K122 a126 n127 c128 o119.1.b_ ∧ rng64 o119.1.p_ ∧ rng64 o119.2.Id ∧ SliceAt tGField K122 a132 n133 c134 o119.2.Fields ∧ SliceAt tGAttr K122 a136 n137 c138 o119.2.Nums) ?_ ?_
    · refine wc_cond rfl (fun hb140 => ?_) (fun hb140 => ?_)
      · have h141 := cond_t hb140 h120
        refine wc_held (fun w' => Holds K108 w') (fun w' => HasObj g12 [.int .i64 o33.2.Id, .slice a46 n47 c48, .slice a50 n51 c52] w') 8 [(1, 6), (1, 7), (1, 8), (6, 7), (6, 8), (7, 8)] mixed ?_
        have hS143 := SH.drew hS118
        refine wg_val (i := 0) (listed' := #[true, false, false, false, false, false, false, false, false]) (fun _ => True) rfl (by kernel_rfl) (pk_then (pk_then pk_body)) (by kernel_rfl) rfl (by kernel_rfl) (by kernel_rfl) rfl (.inl fun _ _ => trivial) ⟨(hS143.hasK (KLe.refl _)), (fun _ => hS143.hasObj (.tail _ (.tail _ (.head _)))), by decide⟩ wn rfl (fun _ _ => (rv_fieldAddr ff43_1 rfl)) ?_
        refine wg_val (i := 1) (listed' := #[true, true, false, false, false, false, false, false, false]) (HasObj g12 [.int .i64 o33.2.Id, .slice a46 n47 c48, .slice a50 n51 c52]) rfl (by kernel_rfl) (pk_then (pk_then pk_body)) (by kernel_rfl) rfl (by kernel_rfl) (by kernel_rfl) rfl (.inr ⟨rfl, fun _ _ h => h⟩) ⟨(hS143.hasK (KLe.refl _)), (fun _ => hS143.hasObj (.tail _ (.tail _ (.head _)))), by decide⟩ wn rfl (fun _ h => rh_loadm1 tf40 rfl rfl h) ?_
        refine wg_val (i := 2) (listed' := #[true, true, true, false, false, false, false, false, false]) (fun _ => True) rfl (by kernel_rfl) (pk_then (pk_then pk_body)) (by kernel_rfl) rfl (by kernel_rfl) (by kernel_rfl) rfl (.inl fun _ _ => trivial) ⟨(hS143.hasK (KLe.refl _)), (fun _ => hS143.hasObj (.tail _ (.tail _ (.head _)))), by decide⟩ wn rfl (fun _ _ => (rv_move rfl)) ?_
        refine wg_one (i := 3) (by kernel_rfl) rfl ?_
        obtain ⟨r144, hx145, h146⟩ := Option.bind_eq_some_iff.1 h141
        refine wl_call wn rfl (rt_call (vs := [.pointer (some ⟨g1, 0, none⟩)]) co141 rfl) ((ok_spec_l30Text F) (SH.enter (Lin := [_]) hS143) hs115 hr116 hx145) ?_
        rintro e156 w148 ⟨a151, n152, c153, K147, rfl, hS149, hl150, hs154, hr155⟩
        refine ⟨_, rfl, ?_⟩
        have hS157 : SH _ _ _ _ _ [_, _, _, _, _] := SH.call (Lin := [_]) hS143 hS149
        refine wl_nil (qe_held (listed' := #[true, true, true, true, false, false, false, false, false]) rfl ⟨(hS157.hasK hS149.le), (fun _ => hS157.hasObj (.tail _ (.tail _ (.head _)))), by decide⟩ ?_)
        refine wg_val (i := 4) (listed' := #[true, true, true, true, true, false, false, false, false]) (fun _ => True) rfl (by kernel_rfl) (pk_then (pk_then pk_body)) (by kernel_rfl) rfl (by kernel_rfl) (by kernel_rfl) rfl (.inl fun _ _ => trivial) ⟨(hS157.hasK hS149.le), (fun _ => hS157.hasObj (.tail _ (.tail _ (.head _)))), by decide⟩ wn rfl (fun _ _ => (rv_build (cs := #[sv [116, 105, 116, 108, 101], sv r144.1]) sp96 tf96 rfl (by kernel_rfl))) ?_
        refine wg_one (i := 5) (by kernel_rfl) rfl ?_
        refine wl_buildSlice (t := tGField) (n := 1) (pv := [(0, .agg #[sv [116, 105, 116, 108, 101], sv r144.1])]) (cs := [sv [116, 105, 116, 108, 101], sv r144.1]) (xs := [(GField.mk ([116, 105, 116, 108, 101] : Str) r144.1)]) wn rfl Try.underlying40 tf96 rfl rfl rfl (by kernel_rfl) rfl rfl (lit_cons (u := .agg #[sv [116, 105, 116, 108, 101], sv r144.1]) (z := (GField.mk ([116, 105, 116, 108, 101] : Str) r144.1)) ⟨rfl, (by decide : ([116, 105, 116, 108, 101] : Str).length ≤ maxLen), hl150⟩ lit_nil) hS157 ?_
        intro a158 w159 K160 hl161 hs162 hS163
        refine wl_nil (qe_held (listed' := #[true, true, true, true, true, true, false, false, false]) rfl ⟨(hS163.hasK (hS149.le.trans hl161)), (fun _ => hS163.hasObj (.tail _ (.tail _ (.tail _ (.head _))))), by decide⟩ ?_)
        refine wg_one (i := 6) (by kernel_rfl) rfl ?_
        have hS164 : SH _ _ _ _ _ [_, _, _, _, _, _] := SH.front (p := [_, _, _, _]) hS163
        obtain ⟨x165, hx166, h167⟩ := Option.bind_eq_some_iff.1 h146
        refine wl_append (t := tGField) wn rfl Try.underlying40 tf96 rfl rfl rfl rfl rfl (SliceAt.mono ((hS110.le.trans hS149.le).trans hl161) hs49) hs162 hx166 hS164 ?_
        intro a168 n169 c170 w171 K172 hl173 hs174 hS175
        refine wl_nil (qe_held (listed' := #[true, true, true, true, true, true, true, false, false]) rfl ⟨(hS175.hasK ((hS149.le.trans hl161).trans hl173)), (fun _ => hS175.hasObj (.tail _ (.tail _ (.tail _ (.tail _ (.head _)))))), by decide⟩ ?_)
        refine wg_val (i := 7) (listed' := #[true, true, true, true, true, true, true, true, false]) (fun _ => True) rfl (by kernel_rfl) (pk_then (pk_then pk_body)) (by kernel_rfl) rfl (by kernel_rfl) (by kernel_rfl) rfl (.inl fun _ _ => trivial) ⟨(hS175.hasK ((hS149.le.trans hl161).trans hl173)), (fun _ => hS175.hasObj (.tail _ (.tail _ (.tail _ (.tail _ (.head _)))))), by decide⟩ wn rfl (fun _ _ => (rv_fieldAddr ff43_1 rfl)) ?_
        refine wg_one (i := 8) (by kernel_rfl) rfl ?_
        have hS176 : SH _ _ _ _ _ [_, _, _, _, _, _] := SH.front (p := [_, _, _, _]) hS175
        refine wl_store (cs' := [.int .i64 o33.2.Id, .slice a168 n169 c170, .slice a50 n51 c52]) (v := .slice a168 n169 c170) wn tf40 rfl rfl rfl (by simp [Value.cells, Value.oneCell']) hS176 rfl rfl ?_
        intro w177 hS178
        refine wl_nil (qe_held (listed' := #[true, true, true, true, true, true, true, true, true]) rfl ⟨(hS178.hasK ((hS149.le.trans hl161).trans hl173)), (fun h => by cases h), by decide⟩ ?_)
        refine wg_done (by kernel_rfl) ?_
        obtain rfl := Option.some.inj h167
        have hS179 : SH _ _ _ _ _ [_, _, _, _, _, _] := SH.front (p := [_, _, _, _, _]) hS178
        have hS180 : SH _ _ _ _ _ [_, _, _, _, _, _] := SH.front (p := [_, _]) hS179
        have hS181 : SH _ _ _ _ _ [_, _, _, _, _, _] := SH.front (p := [_, _]) hS180
        have hS182 : SH _ _ _ _ _ [_, _, _, _, _, _] := SH.front (p := [_, _, _, _, _]) hS181
        have hS183 : SH _ _ _ _ _ [_, _, _, _, _, _] := SH.front (p := [_, _, _, _, _]) hS182
        have hS184 : SH _ _ _ _ _ [_, _, _, _, _] := SH.sublist hS183 (.cons_cons _ (.cons_cons _ (.cons_cons _ (.cons_cons _ (.cons_cons _ (.cons _ .slnil))))))
        exact qe_mid' ⟨a151, n152, c153, a168, n169, c170, a50, n51, c52, K172, rfl, hS184, ((hS149.le.trans hl161).trans hl173), (SliceAt.mono (hl161.trans hl173) hs154), hr155, hr45, hs174, (SliceAt.mono (((hS110.le.trans hS149.le).trans hl161).trans hl173) hs53)⟩ ⟨rfl, rfl, rfl, trivial⟩
      · have h141 := cond_f hb140 h120
        refine wc_skip ?_
        obtain rfl := Option.some.inj h141
        exact qe_mid' ⟨a112, n113, c114, a46, n47, c48, a50, n51, c52, K108, rfl, hS118, (KLe.refl _), hs115, hr116, hr45, (SliceAt.mono hS110.le hs49), (SliceAt.mono hS110.le hs53)⟩ ⟨rfl, rfl, rfl, trivial⟩
    · rintro _ w124 ⟨a126, n127, c128, a132, n133, c134, a136, n137, c138, K122, rfl, hS125, hl123, hs129, hr130, hr131, hs135, hs139⟩
      refine qe_seq ?_
      refine wc_seq ?_
      refine wc_seq ?_
      refine wc_region ?_
      refine wl_val wn rfl (rv_move rfl) ?_
      obtain ⟨r185, hx186, h187⟩ := Option.bind_eq_some_iff.1 h121
      refine wl_call wn rfl (rt_call (vs := [.pointer (some ⟨g1, 0, none⟩), .int .i64 3]) co56 rfl) ((ok_spec_l30Rd_pick F) (SH.enter (Lin := [_]) hS125) hs129 hr130 (by decide : rng64 3) hx186) ?_
      rintro e197 w189 ⟨a192, n193, c194, K188, rfl, hS190, hr191, hs195, hr196⟩
      refine ⟨_, rfl, ?_⟩
      have hS198 : SH _ _ _ _ _ [_, _, _, _, _] := SH.call (Lin := [_]) hS125 hS190
      refine wl_val wn rfl (rv_gtr rfl rfl) ?_
      refine wl_nil ?_
      refine qe_seq ?_
      obtain ⟨o199, h200, h201⟩ := Option.bind_eq_some_iff.1 h187
      refine wc_cutg (fun E' w' => ∃ (a206 : Option Addr) (n207 c208 : Nat) (a212 : Option Addr) (n213 c214 : Nat) (a216 : Option Addr) (n217 c218 : Nat) (K202 : KMap), E' = [(0, .pointer (some ⟨g1, 0, none⟩)), (4, .pointer (some ⟨g8, 0, none⟩)), (5, .pointer (some ⟨g12, 0, none⟩))] ∧ SH w K (List.filterMap Item.g [obj g1 [.slice a2 n3 c4, .int .i64 p0_r.p_] 135]) w' K202 [obj g1 [.slice a206 n207 c208, .int .i64 o199.1.p_] 135, obj g8 [.int .i64 0, .slice none 0 0, .slice none 0 0] 43, obj g12 [.int .i64 o199.2.Id, .slice a212 n213 c214, .slice a216 n217 c218] 43, tail (.slice a212 n213 c214) 96 2, tail (.slice a216 n217 c218) 98 2] ∧ KLe K188 K202 ∧ SliceAt tU8 K202 a206 n207 c208 o199.1.b_ ∧ rng64 o199.1.p_ ∧ rng64 o199.2.Id ∧ SliceAt tGField K202 a212 n213 c214 o199.2.Fields ∧ SliceAt tGAttr K202 a216 n217 c218 o199.2.Nums) ?_ ?_
      · refine wc_cond rfl (fun hb220 => ?_) (fun hb220 => ?_)
        · have h221 := cond_t hb220 h200
          refine wc_held (fun w' => Holds K188 w') (fun w' => HasObj g12 [.int .i64 o119.2.Id, .slice a132 n133 c134, .slice a136 n137 c138] w') 8 [(1, 6), (1, 7), (1, 8), (6, 7), (6, 8), (7, 8)] mixed ?_
          have hS223 := SH.drew hS198
          refine wg_val (i := 0) (listed' := #[true, false, false, false, false, false, false, false, false]) (fun _ => True) rfl (by kernel_rfl) (pk_then (pk_then pk_body)) (by kernel_rfl) rfl (by kernel_rfl) (by kernel_rfl) rfl (.inl fun _ _ => trivial) ⟨(hS223.hasK (KLe.refl _)), (fun _ => hS223.hasObj (.tail _ (.tail _ (.head _)))), by decide⟩ wn rfl (fun _ _ => (rv_fieldAddr ff43_2 rfl)) ?_
          refine wg_val (i := 1) (listed' := #[true, true, false, false, false, false, false, false, false]) (HasObj g12 [.int .i64 o119.2.Id, .slice a132 n133 c134, .slice a136 n137 c138]) rfl (by kernel_rfl) (pk_then (pk_then pk_body)) (by kernel_rfl) rfl (by kernel_rfl) (by kernel_rfl) rfl (.inr ⟨rfl, fun _ _ h => h⟩) ⟨(hS223.hasK (KLe.refl _)), (fun _ => hS223.hasObj (.tail _ (.tail _ (.head _)))), by decide⟩ wn rfl (fun _ h => rh_loadm1 tf41 rfl rfl h) ?_
          refine wg_val (i := 2) (listed' := #[true, true, true, false, false, false, false, false, false]) (fun _ => True) rfl (by kernel_rfl) (pk_then (pk_then pk_body)) (by kernel_rfl) rfl (by kernel_rfl) (by kernel_rfl) rfl (.inl fun _ _ => trivial) ⟨(hS223.hasK (KLe.refl _)), (fun _ => hS223.hasObj (.tail _ (.tail _ (.head _)))), by decide⟩ wn rfl (fun _ _ => (rv_move rfl)) ?_
          refine wg_one (i := 3) (by kernel_rfl) rfl ?_
          obtain ⟨r224, hx225, h226⟩ := Option.bind_eq_some_iff.1 h221
          refine wl_call wn rfl (rt_call (vs := [.pointer (some ⟨g1, 0, none⟩), .int .i64 4]) co56 rfl) ((ok_spec_l30Rd_pick F) (SH.enter (Lin := [_]) hS223) hs195 hr196 (by decide : rng64 4) hx225) ?_
          rintro e236 w228 ⟨a231, n232, c233, K227, rfl, hS229, hr230, hs234, hr235⟩
          refine ⟨_, rfl, ?_⟩
          have hS237 : SH _ _ _ _ _ [_, _, _, _, _] := SH.call (Lin := [_]) hS223 hS229
          refine wl_nil (qe_held (listed' := #[true, true, true, true, false, false, false, false, false]) rfl ⟨(hS237.hasK hS229.le), (fun _ => hS237.hasObj (.tail _ (.tail _ (.head _)))), by decide⟩ ?_)
          refine wg_val (i := 4) (listed' := #[true, true, true, true, true, false, false, false, false]) (fun _ => True) rfl (by kernel_rfl) (pk_then (pk_then pk_body)) (by kernel_rfl) rfl (by kernel_rfl) (by kernel_rfl) rfl (.inl fun _ _ => trivial) ⟨(hS237.hasK hS229.le), (fun _ => hS237.hasObj (.tail _ (.tail _ (.head _)))), by decide⟩ wn rfl (fun _ _ => (rv_build (cs := #[sv [114, 97, 116, 101], .int .i64 r224.1]) sp98 tf98 rfl (by kernel_rfl))) ?_
          refine wg_one (i := 5) (by kernel_rfl) rfl ?_
          refine wl_buildSlice (t := tGAttr) (n := 1) (pv := [(0, .agg #[sv [114, 97, 116, 101], .int .i64 r224.1])]) (cs := [sv [114, 97, 116, 101], .int .i64 r224.1]) (xs := [(GAttr.mk ([114, 97, 116, 101] : Str) r224.1)]) wn rfl Try.underlying41 tf98 rfl rfl rfl (by kernel_rfl) rfl rfl (lit_cons (u := .agg #[sv [114, 97, 116, 101], .int .i64 r224.1]) (z := (GAttr.mk ([114, 97, 116, 101] : Str) r224.1)) ⟨rfl, (by decide : ([114, 97, 116, 101] : Str).length ≤ maxLen), hr230⟩ lit_nil) hS237 ?_
          intro a238 w239 K240 hl241 hs242 hS243
          refine wl_nil (qe_held (listed' := #[true, true, true, true, true, true, false, false, false]) rfl ⟨(hS243.hasK (hS229.le.trans hl241)), (fun _ => hS243.hasObj (.tail _ (.tail _ (.tail _ (.head _))))), by decide⟩ ?_)
          refine wg_one (i := 6) (by kernel_rfl) rfl ?_
          have hS244 : SH _ _ _ _ _ [_, _, _, _, _, _] := SH.front (p := [_, _, _, _, _]) hS243
          obtain ⟨x245, hx246, h247⟩ := Option.bind_eq_some_iff.1 h226
          refine wl_append (t := tGAttr) wn rfl Try.underlying41 tf98 rfl rfl rfl rfl rfl (SliceAt.mono ((hS190.le.trans hS229.le).trans hl241) hs139) hs242 hx246 hS244 ?_
          intro a248 n249 c250 w251 K252 hl253 hs254 hS255
          refine wl_nil (qe_held (listed' := #[true, true, true, true, true, true, true, false, false]) rfl ⟨(hS255.hasK ((hS229.le.trans hl241).trans hl253)), (fun _ => hS255.hasObj (.tail _ (.tail _ (.tail _ (.tail _ (.head _)))))), by decide⟩ ?_)
          refine wg_val (i := 7) (listed' := #[true, true, true, true, true, true, true, true, false]) (fun _ => True) rfl (by kernel_rfl) (pk_then (pk_then pk_body)) (by kernel_rfl) rfl (by kernel_rfl) (by kernel_rfl) rfl (.inl fun _ _ => trivial) ⟨(hS255.hasK ((hS229.le.trans hl241).trans hl253)), (fun _ => hS255.hasObj (.tail _ (.tail _ (.tail _ (.tail _ (.head _)))))), by decide⟩ wn rfl (fun _ _ => (rv_fieldAddr ff43_2 rfl)) ?_
          refine wg_one (i := 8) (by kernel_rfl) rfl ?_
          have hS256 : SH _ _ _ _ _ [_, _, _, _, _, _] := SH.front (p := [_, _, _, _]) hS255
          refine wl_store (cs' := [.int .i64 o119.2.Id, .slice a132 n133 c134, .slice a248 n249 c250]) (v := .slice a248 n249 c250) wn tf41 rfl rfl rfl (by simp [Value.cells, Value.oneCell']) hS256 rfl rfl ?_
          intro w257 hS258
          refine wl_nil (qe_held (listed' := #[true, true, true, true, true, true, true, true, true]) rfl ⟨(hS258.hasK ((hS229.le.trans hl241).trans hl253)), (fun h => by cases h), by decide⟩ ?_)
          refine wg_done (by kernel_rfl) ?_
          obtain rfl := Option.some.inj h247
          have hS259 : SH _ _ _ _ _ [_, _, _, _, _, _] := SH.front (p := [_]) hS258
          have hS260 : SH _ _ _ _ _ [_, _, _, _, _, _] := SH.front (p := [_, _, _, _, _]) hS259
          have hS261 : SH _ _ _ _ _ [_, _, _, _, _, _] := SH.front (p := [_, _]) hS260
          have hS262 : SH _ _ _ _ _ [_, _, _, _, _, _] := SH.front (p := [_, _, _, _, _]) hS261
          have hS263 : SH _ _ _ _ _ [_, _, _, _, _, _] := SH.front (p := [_, _, _, _, _]) hS262
          have hS264 : SH _ _ _ _ _ [_, _, _, _, _] := SH.sublist hS263 (.cons_cons _ (.cons_cons _ (.cons_cons _ (.cons_cons _ (.cons_cons _ (.cons _ .slnil))))))
          exact qe_mid' ⟨a231, n232, c233, a132, n133, c134, a248, n249, c250, K252, rfl, hS264, ((hS229.le.trans hl241).trans hl253), (SliceAt.mono (hl241.trans hl253) hs234), hr235, hr131, (SliceAt.mono (((hS190.le.trans hS229.le).trans hl241).trans hl253) hs135), hs254⟩ ⟨rfl, rfl, rfl, trivial⟩
        · have h221 := cond_f hb220 h200
          refine wc_skip ?_
          obtain rfl := Option.some.inj h221
          exact qe_mid' ⟨a192, n193, c194, a132, n133, c134, a136, n137, c138, K188, rfl, hS198, (KLe.refl _), hs195, hr196, hr131, (SliceAt.mono hS190.le hs135), (SliceAt.mono hS190.le hs139)⟩ ⟨rfl, rfl, rfl, trivial⟩
      · rintro _ w204 ⟨a206, n207, c208, a212, n213, c214, a216, n217, c218, K202, rfl, hS205, hl203, hs209, hr210, hr211, hs215, hs219⟩
        refine qe_seq ?_
        refine wc_seq ?_
        refine wc_seq ?_
        refine wc_region ?_
        refine wl_val wn rfl (rv_move rfl) ?_
        obtain ⟨r265, hx266, h267⟩ := Option.bind_eq_some_iff.1 h201
        refine wl_call wn rfl (rt_call (vs := [.pointer (some ⟨g1, 0, none⟩), .int .i64 3]) co56 rfl) ((ok_spec_l30Rd_pick F) (SH.enter (Lin := [_]) hS205) hs209 hr210 (by decide : rng64 3) hx266) ?_
        rintro e277 w269 ⟨a272, n273, c274, K268, rfl, hS270, hr271, hs275, hr276⟩
        refine ⟨_, rfl, ?_⟩
        have hS278 : SH _ _ _ _ _ [_, _, _, _, _] := SH.call (Lin := [_]) hS205 hS270
        refine wl_val wn rfl (rv_eql rfl rfl) ?_
        refine wl_nil ?_
        refine qe_seq ?_
        refine wc_cond rfl (fun hb279 => ?_) (fun hb279 => ?_)
        · have h280 := cond_t hb279 h267
          refine wc_held (fun w' => Holds K268 w') (fun w' => HasObj g12 [.int .i64 o199.2.Id, .slice a212 n213 c214, .slice a216 n217 c218] w') 9 [(1, 7), (1, 8), (1, 9), (7, 8), (7, 9), (8, 9)] mixed ?_
          have hS282 := SH.drew hS278
          refine wg_val (i := 0) (listed' := #[true, false, false, false, false, false, false, false, false, false]) (fun _ => True) rfl (by kernel_rfl) (pk_then pk_body) (by kernel_rfl) rfl (by kernel_rfl) (by kernel_rfl) rfl (.inl fun _ _ => trivial) ⟨(hS282.hasK (KLe.refl _)), (fun _ => hS282.hasObj (.tail _ (.tail _ (.head _)))), by decide⟩ wn rfl (fun _ _ => (rv_fieldAddr ff43_2 rfl)) ?_
          refine wg_val (i := 1) (listed' := #[true, true, false, false, false, false, false, false, false, false]) (HasObj g12 [.int .i64 o199.2.Id, .slice a212 n213 c214, .slice a216 n217 c218]) rfl (by kernel_rfl) (pk_then pk_body) (by kernel_rfl) rfl (by kernel_rfl) (by kernel_rfl) rfl (.inr ⟨rfl, fun _ _ h => h⟩) ⟨(hS282.hasK (KLe.refl _)), (fun _ => hS282.hasObj (.tail _ (.tail _ (.head _)))), by decide⟩ wn rfl (fun _ h => rh_loadm1 tf41 rfl rfl h) ?_
          refine wg_val (i := 2) (listed' := #[true, true, true, false, false, false, false, false, false, false]) (fun _ => True) rfl (by kernel_rfl) (pk_then pk_body) (by kernel_rfl) rfl (by kernel_rfl) (by kernel_rfl) rfl (.inl fun _ _ => trivial) ⟨(hS282.hasK (KLe.refl _)), (fun _ => hS282.hasObj (.tail _ (.tail _ (.head _)))), by decide⟩ wn rfl (fun _ _ => (rv_move rfl)) ?_
          refine wg_one (i := 3) (by kernel_rfl) rfl ?_
          obtain ⟨r283, hx284, h285⟩ := Option.bind_eq_some_iff.1 h280
          refine wl_call wn rfl (rt_call (vs := [.pointer (some ⟨g1, 0, none⟩), .int .i64 30]) co56 rfl) ((ok_spec_l30Rd_pick F) (SH.enter (Lin := [_]) hS282) hs275 hr276 (by decide : rng64 30) hx284) ?_
          rintro e295 w287 ⟨a290, n291, c292, K286, rfl, hS288, hr289, hs293, hr294⟩
          refine ⟨_, rfl, ?_⟩
          have hS296 : SH _ _ _ _ _ [_, _, _, _, _] := SH.call (Lin := [_]) hS282 hS288
          refine wl_nil (qe_held (listed' := #[true, true, true, true, false, false, false, false, false, false]) rfl ⟨(hS296.hasK hS288.le), (fun _ => hS296.hasObj (.tail _ (.tail _ (.head _)))), by decide⟩ ?_)
          refine wg_val (i := 4) (listed' := #[true, true, true, true, true, false, false, false, false, false]) (fun _ => True) rfl (by kernel_rfl) (pk_then pk_body) (by kernel_rfl) rfl (by kernel_rfl) (by kernel_rfl) rfl (.inl fun _ _ => trivial) ⟨(hS296.hasK hS288.le), (fun _ => hS296.hasObj (.tail _ (.tail _ (.head _)))), by decide⟩ wn rfl (fun _ _ => (rv_add rfl rfl)) ?_
          refine wg_val (i := 5) (listed' := #[true, true, true, true, true, true, false, false, false, false]) (fun _ => True) rfl (by kernel_rfl) (pk_then pk_body) (by kernel_rfl) rfl (by kernel_rfl) (by kernel_rfl) rfl (.inl fun _ _ => trivial) ⟨(hS296.hasK hS288.le), (fun _ => hS296.hasObj (.tail _ (.tail _ (.head _)))), by decide⟩ wn rfl (fun _ _ => (rv_build (cs := #[sv [121, 101, 97, 114], .int .i64 (w64 ((2000 : Int) + r283.1))]) sp98 tf98 rfl (by kernel_rfl))) ?_
          refine wg_one (i := 6) (by kernel_rfl) rfl ?_
          refine wl_buildSlice (t := tGAttr) (n := 1) (pv := [(0, .agg #[sv [121, 101, 97, 114], .int .i64 (w64 ((2000 : Int) + r283.1))])]) (cs := [sv [121, 101, 97, 114], .int .i64 (w64 ((2000 : Int) + r283.1))]) (xs := [(GAttr.mk ([121, 101, 97, 114] : Str) (w64 ((2000 : Int) + r283.1)))]) wn rfl Try.underlying41 tf98 rfl rfl rfl (by kernel_rfl) rfl rfl (lit_cons (u := .agg #[sv [121, 101, 97, 114], .int .i64 (w64 ((2000 : Int) + r283.1))]) (z := (GAttr.mk ([121, 101, 97, 114] : Str) (w64 ((2000 : Int) + r283.1)))) ⟨rfl, (by decide : ([121, 101, 97, 114] : Str).length ≤ maxLen), (w64_rng _)⟩ lit_nil) hS296 ?_
          intro a297 w298 K299 hl300 hs301 hS302
          refine wl_nil (qe_held (listed' := #[true, true, true, true, true, true, true, false, false, false]) rfl ⟨(hS302.hasK (hS288.le.trans hl300)), (fun _ => hS302.hasObj (.tail _ (.tail _ (.tail _ (.head _))))), by decide⟩ ?_)
          refine wg_one (i := 7) (by kernel_rfl) rfl ?_
          have hS303 : SH _ _ _ _ _ [_, _, _, _, _, _] := SH.front (p := [_, _, _, _, _]) hS302
          obtain ⟨x304, hx305, h306⟩ := Option.bind_eq_some_iff.1 h285
          refine wl_append (t := tGAttr) wn rfl Try.underlying41 tf98 rfl rfl rfl rfl rfl (SliceAt.mono ((hS270.le.trans hS288.le).trans hl300) hs219) hs301 hx305 hS303 ?_
          intro a307 n308 c309 w310 K311 hl312 hs313 hS314
          refine wl_nil (qe_held (listed' := #[true, true, true, true, true, true, true, true, false, false]) rfl ⟨(hS314.hasK ((hS288.le.trans hl300).trans hl312)), (fun _ => hS314.hasObj (.tail _ (.tail _ (.tail _ (.tail _ (.head _)))))), by decide⟩ ?_)
          refine wg_val (i := 8) (listed' := #[true, true, true, true, true, true, true, true, true, false]) (fun _ => True) rfl (by kernel_rfl) (pk_then pk_body) (by kernel_rfl) rfl (by kernel_rfl) (by kernel_rfl) rfl (.inl fun _ _ => trivial) ⟨(hS314.hasK ((hS288.le.trans hl300).trans hl312)), (fun _ => hS314.hasObj (.tail _ (.tail _ (.tail _ (.tail _ (.head _)))))), by decide⟩ wn rfl (fun _ _ => (rv_fieldAddr ff43_2 rfl)) ?_
          refine wg_one (i := 9) (by kernel_rfl) rfl ?_
          have hS315 : SH _ _ _ _ _ [_, _, _, _, _, _] := SH.front (p := [_, _, _, _]) hS314
          refine wl_store (cs' := [.int .i64 o199.2.Id, .slice a212 n213 c214, .slice a307 n308 c309]) (v := .slice a307 n308 c309) wn tf41 rfl rfl rfl (by simp [Value.cells, Value.oneCell']) hS315 rfl rfl ?_
          intro w316 hS317
          refine wl_nil (qe_held (listed' := #[true, true, true, true, true, true, true, true, true, true]) rfl ⟨(hS317.hasK ((hS288.le.trans hl300).trans hl312)), (fun h => by cases h), by decide⟩ ?_)
          refine wg_done (by kernel_rfl) ?_
          refine qe_seq ?_
          refine wc_seq ?_
          refine wc_region ?_
          refine wl_val wn rfl (rv_loadmS (ds := [.int .i64 o199.2.Id, .slice a212 n213 c214, .slice a307 n308 c309]) tf43 rfl (.head _) hS317 rfl rfl) ?_
          have hS318 : SH _ _ _ _ _ [_, _, _, _, _, _] := SH.front (p := [_, _, _, _]) hS317
          refine wl_store (cs' := [.int .i64 o199.2.Id, .slice a212 n213 c214, .slice a307 n308 c309]) (v := .agg #[.int .i64 o199.2.Id, .slice a212 n213 c214, .slice a307 n308 c309]) wn tf43 rfl rfl rfl (by simp [Value.cells, Value.oneCell']) hS318 rfl rfl ?_
          intro w319 hS320
          refine wl_nil ?_
          refine qe_seq ?_
          refine wc_ret ?_
          obtain rfl := Option.some.inj h306
          have hS321 : SH _ _ _ _ _ [_, _, _, _, _, _] := SH.front (p := [_, _, _, _]) hS320
          have hS322 : SH _ _ _ _ _ [_, _, _, _, _, _] := SH.front (p := [_, _, _]) hS321
          have hS323 : SH _ _ _ _ _ [_, _, _, _, _, _] := SH.front (p := [_, _, _, _, _]) hS322
          have hS324 : SH _ _ _ _ _ [_, _, _] := SH.sublist hS323 (.cons_cons _ (.cons_cons _ (.cons_cons _ (.cons _ (.cons _ (.cons _ .slnil))))))
          exact qe_ret (vs := [_]) Try.results126 ⟨⟨_, _, rfl, run_loadVar_at tf43 (cs := [.int .i64 o199.2.Id, .slice a212 n213 c214, .slice a307 n308 c309]) (fun j c e => by rw [Nat.zero_add, hS320.mem_obj (.head _)]; exact e) (.inl ⟨rfl, rfl, rfl⟩)⟩, trivial⟩ ⟨a212, n213, c214, a307, n308, c309, a290, n291, c292, K311, rfl, hS324, hr211, (SliceAt.mono (((hS270.le.trans hS288.le).trans hl300).trans hl312) hs215), hs313, (SliceAt.mono (hl300.trans hl312) hs293), hr294⟩
        · have h280 := cond_f hb279 h267
          refine wc_skip ?_
          refine qe_seq ?_
          refine wc_seq ?_
          refine wc_region ?_
          refine wl_val wn rfl (rv_loadmS (ds := [.int .i64 o199.2.Id, .slice a212 n213 c214, .slice a216 n217 c218]) tf43 rfl (.tail _ (.tail _ (.head _))) hS278 rfl rfl) ?_
          have hS325 : SH _ _ _ _ _ [_, _, _, _, _] := SH.front (p := [_]) hS278
          refine wl_store (cs' := [.int .i64 o199.2.Id, .slice a212 n213 c214, .slice a216 n217 c218]) (v := .agg #[.int .i64 o199.2.Id, .slice a212 n213 c214, .slice a216 n217 c218]) wn tf43 rfl rfl rfl (by simp [Value.cells, Value.oneCell']) hS325 rfl rfl ?_
          intro w326 hS327
          refine wl_nil ?_
          refine qe_seq ?_
          refine wc_ret ?_
          obtain rfl := Option.some.inj h280
          have hS328 : SH _ _ _ _ _ [_, _, _, _, _] := SH.front (p := [_]) hS327
          have hS329 : SH _ _ _ _ _ [_, _, _, _, _] := SH.front (p := [_, _, _, _]) hS328
          have hS330 : SH _ _ _ _ _ [_, _, _, _, _] := SH.front (p := [_, _, _, _]) hS329
          have hS331 : SH _ _ _ _ _ [_, _, _] := SH.sublist hS330 (.cons_cons _ (.cons_cons _ (.cons_cons _ (.cons _ (.cons _ .slnil)))))
          exact qe_ret (vs := [_]) Try.results126 ⟨⟨_, _, rfl, run_loadVar_at tf43 (cs := [.int .i64 o199.2.Id, .slice a212 n213 c214, .slice a216 n217 c218]) (fun j c e => by rw [Nat.zero_add, hS327.mem_obj (.head _)]; exact e) (.inl ⟨rfl, rfl, rfl⟩)⟩, trivial⟩ ⟨a212, n213, c214, a216, n217, c218, a272, n273, c274, K268, rfl, hS331, hr211, (SliceAt.mono hS270.le hs215), (SliceAt.mono hS270.le hs219), hs275, hr276⟩

theorem ok_spec_l30Docs (F : Nat) {w : World} {K : KMap} {g1 : Nat} {a2 : Option Addr} {n3 c4 : Nat} {p0_r : GL30Rd} {r : (List GDoc) × GL30Rd} (hS : SH w K (List.filterMap Item.g [obj g1 [.slice a2 n3 c4, .int .i64 p0_r.p_] 135]) w K [obj g1 [.slice a2 n3 c4, .int .i64 p0_r.p_] 135]) (hs5 : SliceAt tU8 K a2 n3 c4 p0_r.b_) (hr6 : rng64 p0_r.p_) (hm : M.spec_l30Docs F p0_r = some r) :
    Calls Try.prog 100 #[.pointer (some ⟨g1, 0, none⟩)] w fun e w' => ∃ (a_1 : Option Addr) (n_2 c_3 : Nat) (a_5 : Option Addr) (n_6 c_7 : Nat) (K' : KMap), e = .returned (.slice a_1 n_2 c_3) ∧ SH w K (List.filterMap Item.g [obj g1 [.slice a2 n3 c4, .int .i64 p0_r.p_] 135]) w' K' [tail (.slice a_1 n_2 c_3) 43 3, obj g1 [.slice a_5 n_6 c_7, .int .i64 r.2.p_] 135] ∧ SliceAt tGDoc K' a_1 n_2 c_3 r.1 ∧ SliceAt tU8 K' a_5 n_6 c_7 r.2.b_ ∧ rng64 r.2.p_ := by
  rw [M.spec_l30Docs] at hm
  refine calls_in Try.func100 rfl Try.ntmps100 rfl ?_
  refine wc_seq ?_
  refine wc_region ?_
  refine wl_val wn rfl (rv_assign (v := .slice none 0 0) rfl) ?_
  refine wl_nil ?_
  refine qe_seq ?_
  refine wc_seq ?_
  refine wc_region ?_
  refine wl_buildSlice0 tGDoc wn rfl Try.underlying34 tf43 hS ?_
  intro a7 w8 K9 hl10 hs11 hS12
  refine wl_val wn rfl (rv_assign rfl) ?_
  refine wl_nil ?_
  refine qe_seq ?_
  refine wc_seq ?_
  refine wc_region ?_
  refine wl_val wn rfl (rv_assign (v := .int .i64 0) rfl) ?_
  refine wl_nil ?_
  refine qe_seq ?_
  refine wc_seq ?_
  refine wc_seq ?_
  refine wc_region ?_
  refine wl_val wn rfl (rv_move rfl) ?_
  obtain ⟨r13, hx14, h15⟩ := Option.bind_eq_some_iff.1 hm
  have hS16 : SH _ _ _ _ _ [_, _] := SH.front (p := [_]) hS12
  refine wl_call wn rfl (rt_call (vs := [.pointer (some ⟨g1, 0, none⟩), .int .i64 6]) co56 rfl) ((ok_spec_l30Rd_pick F) (SH.enter (Lin := [_]) hS16) (SliceAt.mono hl10 hs5) hr6 (by decide : rng64 6) hx14) ?_
  rintro e26 w18 ⟨a21, n22, c23, K17, rfl, hS19, hr20, hs24, hr25⟩
  refine ⟨_, rfl, ?_⟩
  have hS27 : SH _ _ _ _ _ [_, _] := SH.call (Lin := [_]) hS16 hS19
  refine wl_val wn rfl (rv_assign rfl) ?_
  refine wl_nil ?_
  refine qe_seq ?_
  obtain ⟨o28, h29, h30⟩ := Option.bind_eq_some_iff.1 h15
  refine wc_cutg (fun E' w' => ∃ (a35 : Option Addr) (n36 c37 : Nat) (a39 : Option Addr) (n40 c41 : Nat) (K31 : KMap), E' = [(0, .pointer (some ⟨g1, 0, none⟩)), (3, .slice a35 n36 c37)] ∧ SH w K (List.filterMap Item.g [obj g1 [.slice a2 n3 c4, .int .i64 p0_r.p_] 135]) w' K31 [obj g1 [.slice a39 n40 c41, .int .i64 o28.2.p_] 135, tail (.slice a35 n36 c37) 43 3] ∧ KLe K17 K31 ∧ SliceAt tGDoc K31 a35 n36 c37 o28.1 ∧ SliceAt tU8 K31 a39 n40 c41 o28.2.b_ ∧ rng64 o28.2.p_) ?_ ?_
  · refine wc_block ?_
    obtain ⟨r45, h46, h47⟩ := Option.bind_eq_some_iff.1 h29
    refine wc_while' (fun (s44 : (List GDoc) × Int × Int × GL30Rd) E' w' => ∃ (a52 : Option Addr) (n53 c54 : Nat) (a58 : Option Addr) (n59 c60 : Nat) (K48 : KMap), E' = [(0, .pointer (some ⟨g1, 0, none⟩)), (3, .slice a52 n53 c54), (4, .int .i64 s44.2.1), (5, .int .i64 s44.2.2.1)] ∧ SH w K (List.filterMap Item.g [obj g1 [.slice a2 n3 c4, .int .i64 p0_r.p_] 135]) w' K48 [obj g1 [.slice a58 n59 c60, .int .i64 s44.2.2.2.p_] 135, tail (.slice a52 n53 c54) 43 3] ∧ KLe K17 K48 ∧ SliceAt tGDoc K48 a52 n53 c54 s44.1 ∧ rng64 s44.2.1 ∧ rng64 s44.2.2.1 ∧ SliceAt tU8 K48 a58 n59 c60 s44.2.2.2.b_ ∧ rng64 s44.2.2.2.p_) h46 ⟨a7, 0, 0, a21, n22, c23, K17, rfl, hS27, (KLe.refl _), (SliceAt.mono hS19.le hs11), (by decide : rng64 0), hr20, hs24, hr25⟩ ⟨rfl, rfl, rfl, rfl, trivial⟩ ?_
    rintro s44 _ w50 r63 h64 hx65 ⟨a52, n53, c54, a58, n59, c60, K48, rfl, hS51, hl49, hs55, hr56, hr57, hs61, hr62⟩
    refine wc_seq ?_
    refine wc_seq ?_
    refine wc_region ?_
    refine wl_val wn rfl (rv_move rfl) ?_
    refine wl_val wn rfl (rv_gtr rfl rfl) ?_
    refine wl_nil ?_
    refine qe_seq ?_
    refine wc_cond rfl (fun hb66 => ?_) (fun hb66 => ?_)
    · have h67 := cond_t hb66 h64
      refine wc_skip ?_
      refine qe_seq ?_
      refine wc_seq ?_
      refine wc_block ?_
      refine wc_seq ?_
      refine wc_region ?_
      refine wl_val wn rfl (rv_move rfl) ?_
      refine wl_val wn rfl (rv_add rfl rfl) ?_
      refine wl_val wn rfl (rv_move rfl) ?_
      obtain ⟨r68, hx69, h70⟩ := Option.bind_eq_some_iff.1 h67
      refine wl_call wn rfl (rt_call (vs := [.pointer (some ⟨g1, 0, none⟩), .int .i64 3]) co56 rfl) ((ok_spec_l30Rd_pick F) (SH.enter (Lin := [_]) hS51) hs61 hr62 (by decide : rng64 3) hx69) ?_
      rintro e80 w72 ⟨a75, n76, c77, K71, rfl, hS73, hr74, hs78, hr79⟩
      refine ⟨_, rfl, ?_⟩
      have hS81 : SH _ _ _ _ _ [_, _] := SH.call (Lin := [_]) hS51 hS73
      refine wl_val wn rfl (rv_add rfl rfl) ?_
      refine wl_val wn rfl (rv_assign rfl) ?_
      refine wl_nil ?_
      refine qe_seq ?_
      refine wc_region ?_
      refine wl_val wn rfl (rv_move rfl) ?_
      refine wl_val wn rfl (rv_move rfl) ?_
      refine wl_val wn rfl (rv_move rfl) ?_
      obtain ⟨r82, hx83, h84⟩ := Option.bind_eq_some_iff.1 h70
      refine wl_call wn rfl (rt_call (vs := [.pointer (some ⟨g1, 0, none⟩), .int .i64 (w64 ((w64 (s44.2.1 + (1 : Int))) + r68.1))]) co126 rfl) ((ok_spec_l30Doc F) (SH.enter (Lin := [_]) hS81) hs78 hr79 (w64_rng _) hx83) ?_
      rintro e102 w86 ⟨a89, n90, c91, a93, n94, c95, a97, n98, c99, K85, rfl, hS87, hr88, hs92, hs96, hs100, hr101⟩
      refine ⟨_, rfl, ?_⟩
      have hS103 : SH _ _ _ _ _ [_, _, _, _] := SH.call (Lin := [_]) hS81 hS87
      refine wl_buildSlice (t := tGDoc) (n := 1) (pv := [(0, .agg #[.int .i64 r82.1.Id, .slice a89 n90 c91, .slice a93 n94 c95])]) (cs := [.int .i64 r82.1.Id, .slice a89 n90 c91, .slice a93 n94 c95]) (xs := [r82.1]) wn rfl Try.underlying34 tf43 rfl rfl rfl (by kernel_rfl) rfl rfl (lit_cons (u := .agg #[.int .i64 r82.1.Id, .slice a89 n90 c91, .slice a93 n94 c95]) (z := r82.1) ⟨a89, n90, c91, a93, n94, c95, rfl, hr88, hs92, hs96⟩ lit_nil) hS103 ?_
      intro a104 w105 K106 hl107 hs108 hS109
      have hS110 : SH _ _ _ _ _ [_, _, _, _, _] := SH.front (p := [_, _, _, _]) hS109
      obtain ⟨x111, hx112, h113⟩ := Option.bind_eq_some_iff.1 h84
      refine wl_append (t := tGDoc) wn rfl Try.underlying34 tf43 rfl rfl rfl rfl rfl (SliceAt.mono ((hS73.le.trans hS87.le).trans hl107) hs55) hs108 hx112 hS110 ?_
      intro a114 n115 c116 w117 K118 hl119 hs120 hS121
      refine wl_val wn rfl (rv_assign rfl) ?_
      refine wl_nil ?_
      refine qe_block ?_
      refine qe_seq ?_
      refine wc_region ?_
      refine wl_val wn rfl (rv_move rfl) ?_
      refine wl_val wn rfl (rv_sub rfl rfl) ?_
      refine wl_val wn rfl (rv_assign rfl) ?_
      refine wl_nil ?_
      obtain rfl := Option.some.inj h113
      have hS122 : SH _ _ _ _ _ [_, _, _, _, _] := SH.front (p := [_, _, _, _]) hS121
      have hS123 : SH _ _ _ _ _ [_, _] := SH.sublist hS122 (.cons_cons _ (.cons_cons _ (.cons _ (.cons _ (.cons _ .slnil)))))
      exact qe_mid' ⟨_, rfl, a114, n115, c116, a97, n98, c99, K118, rfl, hS123, ((((hl49.trans hS73.le).trans hS87.le).trans hl107).trans hl119), hs120, (w64_rng _), (w64_rng _), (SliceAt.mono (hl107.trans hl119) hs100), hr101⟩ ⟨rfl, rfl, rfl, rfl, trivial⟩
    · have h67 := cond_f hb66 h64
      refine wc_exit ?_
      refine qe_then_exit ?_
      refine qe_then_exit ?_
      obtain rfl := Option.some.inj h67
      have e124 := hx65 _ rfl
      subst e124
      refine qe_block_eq ?_
      obtain rfl := Option.some.inj h47
      exact qe_mid' ⟨a52, n53, c54, a58, n59, c60, K48, rfl, hS51, hl49, hs55, hs61, hr62⟩ ⟨rfl, rfl, trivial⟩
  · rintro _ w33 ⟨a35, n36, c37, a39, n40, c41, K31, rfl, hS34, hl32, hs38, hs42, hr43⟩
    refine qe_seq ?_
    refine wc_seq ?_
    refine wc_region ?_
    refine wl_val wn rfl (rv_move rfl) ?_
    refine wl_val wn rfl (rv_assign rfl) ?_
    refine wl_nil ?_
    refine qe_seq ?_
    refine wc_ret ?_
    obtain rfl := Option.some.inj h30
    have hS125 : SH _ _ _ _ _ [_, _] := SH.front (p := [_]) hS34
    exact qe_ret (vs := [_]) Try.results100 ⟨rfl, trivial⟩ ⟨a35, n36, c37, a39, n40, c41, K31, rfl, hS125, hs38, hs42, hr43⟩

theorem ok_spec_l30Rd_one (F : Nat) {w : World} {K : KMap} {g1 : Nat} {a2 : Option Addr} {n3 c4 : Nat} {a7 : Option Addr} {n8 c9 : Nat} {p0_r : GL30Rd} {p1_list : List Int} {r : Int × GL30Rd} (hS : SH w K (List.filterMap Item.g [obj g1 [.slice a2 n3 c4, .int .i64 p0_r.p_] 135]) w K [obj g1 [.slice a2 n3 c4, .int .i64 p0_r.p_] 135]) (hs5 : SliceAt tU8 K a2 n3 c4 p0_r.b_) (hr6 : rng64 p0_r.p_) (hs10 : SliceAt tInt K a7 n8 c9 p1_list) (hm : M.spec_l30Rd_one F p0_r p1_list = some r) :
    Calls Try.prog 85 #[.pointer (some ⟨g1, 0, none⟩), .slice a7 n8 c9] w fun e w' => ∃ (a_2 : Option Addr) (n_3 c_4 : Nat) (K' : KMap), e = .returned (.int .i64 r.1) ∧ SH w K (List.filterMap Item.g [obj g1 [.slice a2 n3 c4, .int .i64 p0_r.p_] 135]) w' K' [obj g1 [.slice a_2 n_3 c_4, .int .i64 r.2.p_] 135] ∧ rng64 r.1 ∧ SliceAt tU8 K' a_2 n_3 c_4 r.2.b_ ∧ rng64 r.2.p_ := by
  rw [M.spec_l30Rd_one] at hm
  refine calls_in Try.func85 rfl Try.ntmps85 rfl ?_
  refine wc_seq ?_
  refine wc_region ?_
  refine wl_val wn rfl (rv_assign (v := .int .i64 0) rfl) ?_
  refine wl_nil ?_
  refine qe_seq ?_
  refine wc_seq ?_
  refine wc_region ?_
  refine wl_val wn rfl (rv_move rfl) ?_
  refine wl_val wn rfl (rv_move rfl) ?_
  refine wl_val wn rfl (rv_move rfl) ?_
  refine wl_val wn rfl (rv_len (t := tInt) Try.underlying120 rfl hs10) ?_
  obtain ⟨r11, hx12, h13⟩ := Option.bind_eq_some_iff.1 hm
  refine wl_call wn rfl (rt_call (vs := [.pointer (some ⟨g1, 0, none⟩), .int .i64 (p1_list.length : Int)]) co56 rfl) ((ok_spec_l30Rd_pick F) (SH.enter (Lin := [_]) hS) hs5 hr6 (rng_nat (SliceAt.max hs10)) hx12) ?_
  rintro e23 w15 ⟨a18, n19, c20, K14, rfl, hS16, hr17, hs21, hr22⟩
  refine ⟨_, rfl, ?_⟩
  have hS24 : SH _ _ _ _ _ [_] := SH.call (Lin := [_]) hS hS16
  obtain ⟨x25, hx26, h27⟩ := Option.bind_eq_some_iff.1 h13
  refine wl_indexAddr (t := tInt) wn rfl Try.underlying120 tf3 rfl rfl (SliceAt.mono hS16.le hs10) hx26 ?_
  intro b28 o29 u30 hu31 ha32
  obtain ⟨rfl, hr33⟩ := hu31
  have ha34 : AtK _ b28 o29 [.int .i64 x25] := ha32
  refine wl_val wn rfl (rv_load1 tf3 rfl hS24 (ha34 0 _ rfl)) ?_
  refine wl_val wn rfl (rv_assign rfl) ?_
  refine wl_nil ?_
  refine qe_seq ?_
  refine wc_ret ?_
  obtain rfl := Option.some.inj h27
  exact qe_ret (vs := [_]) Try.results85 ⟨rfl, trivial⟩ ⟨a18, n19, c20, K14, rfl, hS24, hr33, hs21, hr22⟩
end Go.Proofs.Ytajfhpaokbgmeaa
