/-
  Walks of the functions. Printed by gen.py.
-/
import Derived.Test.YtajfhpaokbgmeaaFacts
set_option linter.unusedVariables false
set_option maxRecDepth 100000
namespace Go.Proofs.Ytajfhpaokbgmeaa
open Go Go.Fk Go.RowKit

theorem ok_spec_l30Open (F : Nat) {w : World} {K : KMap} {a1 : Option Addr} {n2 c3 : Nat} {p0_code : List UInt8} {r : GL30Rd} (hS : SH w K [] w K []) (hs4 : SliceAt tU8 K a1 n2 c3 p0_code) (hm : M.spec_l30Open F p0_code = some r) :
    Calls Try.prog 54 #[.slice a1 n2 c3] w fun e w' => ∃ (g_1 : Nat) (a_2 : Option Addr) (n_3 c_4 : Nat) (K' : KMap), e = .returned (.pointer (some ⟨g_1, 0, none⟩)) ∧ SH w K [] w' K' [obj g_1 [.slice a_2 n_3 c_4, .int .i64 r.p_] 135] ∧ SliceAt tU8 K' a_2 n_3 c_4 r.b_ ∧ rng64 r.p_ := by
  rw [M.spec_l30Open] at hm
  refine calls_in Try.func54 rfl Try.ntmps54 rfl ?_
  refine wc_seq ?_
  refine wc_region ?_
  refine wl_val wn rfl (rv_assign (v := .pointer none) rfl) ?_
  refine wl_nil ?_
  refine qe_seq ?_
  refine wc_seq ?_
  refine wc_seq ?_
  refine wc_region ?_
  refine wl_val wn rfl (rv_move rfl) ?_
  refine wl_val wn rfl (rv_len (t := tU8) Try.underlying33 rfl hs4) ?_
  refine wl_val wn rfl (rv_gtr rfl rfl) ?_
  refine wl_nil ?_
  refine qe_seq ?_
  refine wc_cond rfl (fun hb5 => ?_) (fun hb5 => ?_)
  · have h6 := cond_t hb5 hm
    refine wc_region ?_
    refine wl_val wn rfl (rv_move rfl) ?_
    obtain ⟨x7, hx8, h9⟩ := Option.bind_eq_some_iff.1 h6
    refine wl_sl_h (t := tU8) wn rfl Try.underlying33 tf5 rfl rfl hs4 hx8 ?_
    intro a10 n11 c12 hs13
    refine wl_val wn rfl (rv_assign rfl) ?_
    refine wl_nil ?_
    refine qe_seq ?_
    refine wc_seq ?_
    refine wc_region ?_
    refine wl_val wn rfl (rv_move rfl) ?_
    refine wl_val wn rfl (rv_build (cs := #[.slice a10 n11 c12, .int .i64 0]) sp135 tf135 rfl (by kernel_rfl)) ?_
    refine wl_box wn rfl rfl hS ?_
    intro g14 w15 hS16
    have hS17 : SH _ _ _ _ _ [obj g14 [.slice a10 n11 c12, .int .i64 0] 135] := hS16
    refine wl_val wn rfl (rv_assign rfl) ?_
    refine wl_nil ?_
    refine qe_seq ?_
    refine wc_ret ?_
    obtain rfl := Option.some.inj h9
    exact qe_ret (vs := [_]) Try.results54 ⟨rfl, trivial⟩ ⟨g14, a10, n11, c12, K, rfl, hS17, hs13, (by decide : rng64 0)⟩
  · have h6 := cond_f hb5 hm
    refine wc_skip ?_
    refine qe_seq ?_
    refine wc_seq ?_
    refine wc_region ?_
    refine wl_val wn rfl (rv_move rfl) ?_
    refine wl_val wn rfl (rv_build (cs := #[.slice a1 n2 c3, .int .i64 0]) sp135 tf135 rfl (by kernel_rfl)) ?_
    refine wl_box wn rfl rfl hS ?_
    intro g18 w19 hS20
    have hS21 : SH _ _ _ _ _ [obj g18 [.slice a1 n2 c3, .int .i64 0] 135] := hS20
    refine wl_val wn rfl (rv_assign rfl) ?_
    refine wl_nil ?_
    refine qe_seq ?_
    refine wc_ret ?_
    obtain rfl := Option.some.inj h6
    exact qe_ret (vs := [_]) Try.results54 ⟨rfl, trivial⟩ ⟨g18, a1, n2, c3, K, rfl, hS21, hs4, (by decide : rng64 0)⟩

set_option maxHeartbeats 2000000 in
theorem ok_spec_l30Rd_pick (F : Nat) {w : World} {K : KMap} {g1 : Nat} {a2 : Option Addr} {n3 c4 : Nat} {p0_r : GL30Rd} {p1_n : Int} {r : Int × GL30Rd} (hS : SH w K (List.filterMap Item.g [obj g1 [.slice a2 n3 c4, .int .i64 p0_r.p_] 135]) w K [obj g1 [.slice a2 n3 c4, .int .i64 p0_r.p_] 135]) (hs5 : SliceAt tU8 K a2 n3 c4 p0_r.b_) (hr6 : rng64 p0_r.p_) (hr7 : rng64 p1_n) (hm : M.spec_l30Rd_pick F p0_r p1_n = some r) :
    Calls Try.prog 56 #[.pointer (some ⟨g1, 0, none⟩), .int .i64 p1_n] w fun e w' => ∃ (a_2 : Option Addr) (n_3 c_4 : Nat) (K' : KMap), e = .returned (.int .i64 r.1) ∧ SH w K (List.filterMap Item.g [obj g1 [.slice a2 n3 c4, .int .i64 p0_r.p_] 135]) w' K' [obj g1 [.slice a_2 n_3 c_4, .int .i64 r.2.p_] 135] ∧ rng64 r.1 ∧ SliceAt tU8 K' a_2 n_3 c_4 r.2.b_ ∧ rng64 r.2.p_ := by
  rw [M.spec_l30Rd_pick] at hm
  refine calls_in Try.func56 rfl Try.ntmps56 rfl ?_
  refine wc_seq ?_
  refine wc_region ?_
  refine wl_val wn rfl (rv_assign (v := .int .i64 0) rfl) ?_
  refine wl_nil ?_
  refine qe_seq ?_
  refine wc_seq ?_
  refine wc_region ?_
  refine wl_val wn rfl (rv_move rfl) ?_
  refine wl_val wn rfl (rv_move rfl) ?_
  refine wl_val wn rfl (rv_nilCheck rfl) ?_
  refine wl_val wn rfl (rv_fieldAddr ff135_1 rfl) ?_
  refine wl_val wn rfl (rv_loadm1 tf3 rfl (.head _) hS rfl) ?_
  refine wl_val wn rfl (rv_add rfl rfl) ?_
  refine wl_val wn rfl (rv_nilCheck rfl) ?_
  refine wl_val wn rfl (rv_fieldAddr ff135_1 rfl) ?_
  refine wl_store (cs' := [.slice a2 n3 c4, .int .i64 (w64 (p0_r.p_ + (1 : Int)))]) (v := .int .i64 (w64 (p0_r.p_ + (1 : Int)))) wn tf3 rfl rfl rfl (by simp [Value.cells, Value.oneCell']) hS rfl rfl ?_
  intro w8 hS9
  refine wl_nil ?_
  refine qe_seq ?_
  refine wc_seq ?_
  refine wc_seq ?_
  obtain ⟨o10, h11, h12⟩ := Option.bind_eq_some_iff.1 hm
  refine wc_cutg (fun E' w' => ∃ (K13 : KMap), E' = [(0, .pointer (some ⟨g1, 0, none⟩)), (1, .int .i64 p1_n), (24, .bool o10)] ∧ SH w K (List.filterMap Item.g [obj g1 [.slice a2 n3 c4, .int .i64 p0_r.p_] 135]) w' K13 [obj g1 [.slice a2 n3 c4, .int .i64 (w64 (p0_r.p_ + (1 : Int)))] 135] ∧ KLe K K13) ?_ ?_
  · refine wc_region ?_
    refine wl_val wn rfl (rv_move rfl) ?_
    refine wl_val wn rfl (rv_lss rfl rfl) ?_
    refine wl_val wn rfl (rv_move rfl) ?_
    rcases bool_tf (decide (p1_n < (1 : Int))) with hb17 | hb17
    · have h18 := cond_t hb17 h11
      refine wl_un (ug rfl rfl hb17) rfl ?_
      refine wl_un (ug rfl rfl hb17) rfl ?_
      refine wl_un (ug rfl rfl hb17) rfl ?_
      refine wl_un (ug rfl rfl hb17) rfl ?_
      refine wl_un (ug rfl rfl hb17) rfl ?_
      refine wl_un (ug rfl rfl hb17) rfl ?_
      refine wl_val wn rfl (rv_pick_t (v := .bool true) rfl hb17 rfl) ?_
      refine wl_nil ?_
      obtain rfl := Option.some.inj h18
      exact qe_mid' ⟨K, rfl, hS9, (KLe.refl _)⟩ ⟨rfl, rfl, rfl, trivial⟩
    · have h18 := cond_f hb17 h11
      refine wl_val (wg rfl rfl hb17) rfl (rv_move rfl) ?_
      refine wl_val (wg rfl rfl hb17) rfl (rv_nilCheck rfl) ?_
      refine wl_val (wg rfl rfl hb17) rfl (rv_fieldAddr ff135_0 rfl) ?_
      refine wl_val (wg rfl rfl hb17) rfl (rv_loadm1 tf33 rfl (.head _) hS9 rfl) ?_
      refine wl_val (wg rfl rfl hb17) rfl (rv_len (t := tU8) Try.underlying33 rfl hs5) ?_
      refine wl_val (wg rfl rfl hb17) rfl (rv_eql rfl rfl) ?_
      refine wl_val wn rfl (rv_pick_f rfl hb17 rfl) ?_
      refine wl_nil ?_
      obtain rfl := Option.some.inj h18
      exact qe_mid' ⟨K, rfl, hS9, (KLe.refl _)⟩ ⟨rfl, rfl, rfl, trivial⟩
  · rintro _ w15 ⟨K13, rfl, hS16, hl14⟩
    refine qe_seq ?_
    refine wc_cond rfl (fun hb19 => ?_) (fun hb19 => ?_)
    · have h20 := cond_t hb19 h12
      refine wc_seq ?_
      refine wc_region ?_
      refine wl_val wn rfl (rv_assign (v := .int .i64 0) rfl) ?_
      refine wl_nil ?_
      refine qe_seq ?_
      refine wc_ret ?_
      refine qe_then_ret ?_
      obtain rfl := Option.some.inj h20
      exact qe_ret (vs := [_]) Try.results56 ⟨rfl, trivial⟩ ⟨a2, n3, c4, K13, rfl, hS16, (by decide : rng64 0), (SliceAt.mono hl14 hs5), (w64_rng _)⟩
    · have h20 := cond_f hb19 h12
      refine wc_skip ?_
      refine qe_seq ?_
      refine wc_seq ?_
      refine wc_region ?_
      refine wl_val wn rfl (rv_move rfl) ?_
      refine wl_val wn rfl (rv_nilCheck rfl) ?_
      refine wl_val wn rfl (rv_fieldAddr ff135_1 rfl) ?_
      refine wl_val wn rfl (rv_loadm1 tf3 rfl (.head _) hS16 rfl) ?_
      refine wl_val wn rfl (rv_sub rfl rfl) ?_
      refine wl_val wn rfl (rv_assign rfl) ?_
      refine wl_nil ?_
      refine qe_seq ?_
      refine wc_seq ?_
      refine wc_seq ?_
      refine wc_region ?_
      refine wl_val wn rfl (rv_move rfl) ?_
      refine wl_val wn rfl (rv_move rfl) ?_
      refine wl_val wn rfl (rv_nilCheck rfl) ?_
      refine wl_val wn rfl (rv_fieldAddr ff135_0 rfl) ?_
      refine wl_val wn rfl (rv_loadm1 tf33 rfl (.head _) hS16 rfl) ?_
      refine wl_val wn rfl (rv_len (t := tU8) Try.underlying33 rfl (SliceAt.mono hl14 hs5)) ?_
      refine wl_val wn rfl (rv_lss rfl rfl) ?_
      refine wl_nil ?_
      refine qe_seq ?_
      refine wc_cond rfl (fun hb21 => ?_) (fun hb21 => ?_)
      · have h22 := cond_t hb21 h20
        refine wc_seq ?_
        refine wc_region ?_
        refine wl_val wn rfl (rv_move rfl) ?_
        refine wl_val wn rfl (rv_nilCheck rfl) ?_
        refine wl_val wn rfl (rv_fieldAddr ff135_0 rfl) ?_
        refine wl_val wn rfl (rv_loadm1 tf33 rfl (.head _) hS16 rfl) ?_
        refine wl_val wn rfl (rv_move rfl) ?_
        obtain ⟨x23, hx24, h25⟩ := Option.bind_eq_some_iff.1 h22
        refine wl_indexAddr (t := tU8) wn rfl Try.underlying33 tf5 rfl rfl (SliceAt.mono hl14 hs5) hx24 ?_
        intro b26 o27 u28 hu29 ha30
        obtain rfl := hu29
        have ha31 : AtK _ b26 o27 [iv8 x23] := ha30
        refine wl_val wn rfl (rv_load1 tf5 rfl hS16 (ha31 0 _ rfl)) ?_
        refine wl_val wn rfl (rv_b2i Try.underlying5 Try.underlying3 rfl) ?_
        refine wl_val wn rfl (rv_move rfl) ?_
        obtain ⟨x32, hx33, h34⟩ := Option.bind_eq_some_iff.1 h25
        refine wl_val wn rfl (rv_rem rfl rfl hx33) ?_
        refine wl_val wn rfl (rv_assign rfl) ?_
        refine wl_nil ?_
        refine qe_seq ?_
        refine wc_ret ?_
        refine qe_then_ret ?_
        obtain rfl := Option.some.inj h34
        exact qe_ret (vs := [_]) Try.results56 ⟨rfl, trivial⟩ ⟨a2, n3, c4, K13, rfl, hS16, (rng_rem (rng_u8 _) hx33), (SliceAt.mono hl14 hs5), (w64_rng _)⟩
      · have h22 := cond_f hb21 h20
        refine wc_skip ?_
        refine qe_seq ?_
        refine wc_seq ?_
        refine wc_quiet mixed (by kernel_rfl) hS16 ?_
        refine wq_val wn rfl (fun _ _ => (rv_move rfl)) ?_
        refine wq_val wn rfl (fun _ _ => (rv_nilCheck rfl)) ?_
        refine wq_val wn rfl (fun _ _ => (rv_fieldAddr ff135_0 rfl)) ?_
        refine wq_val wn rfl (rq_loadm1 tf33 rfl (.head _) rfl) ?_
        refine wq_val wn rfl (fun _ _ => (rv_move rfl)) ?_
        refine wq_val wn rfl (fun _ _ => (rv_move rfl)) ?_
        refine wq_val wn rfl (fun _ _ => (rv_nilCheck rfl)) ?_
        refine wq_val wn rfl (fun _ _ => (rv_fieldAddr ff135_0 rfl)) ?_
        refine wq_val wn rfl (rq_loadm1 tf33 rfl (.head _) rfl) ?_
        refine wq_val wn rfl (fun _ _ => (rv_len (t := tU8) Try.underlying33 rfl (SliceAt.mono hl14 hs5))) ?_
        obtain ⟨x35, hx36, h37⟩ := Option.bind_eq_some_iff.1 h22
        refine wq_val wn rfl (fun _ _ => (rv_rem rfl rfl hx36)) ?_
        obtain ⟨x38, hx39, h40⟩ := Option.bind_eq_some_iff.1 h37
        refine wq_indexAddr (t := tU8) wn rfl Try.underlying33 tf5 rfl rfl (SliceAt.mono hl14 hs5) hx39 ?_
        intro b41 o42 u43 hu44 ha45
        obtain rfl := hu44
        have ha46 : AtK _ b41 o42 [iv8 x38] := ha45
        refine wq_val wn rfl (rq_load1 tf5 rfl (ha46 0 _ rfl)) ?_
        refine wq_val wn rfl (fun _ _ => (rv_b2i Try.underlying5 Try.underlying3 rfl)) ?_
        refine wq_val wn rfl (fun _ _ => (rv_mul rfl rfl)) ?_
        refine wq_val wn rfl (fun _ _ => (rv_move rfl)) ?_
        refine wq_val wn rfl (fun _ _ => (rv_nilCheck rfl)) ?_
        refine wq_val wn rfl (fun _ _ => (rv_fieldAddr ff135_0 rfl)) ?_
        refine wq_val wn rfl (rq_loadm1 tf33 rfl (.head _) rfl) ?_
        refine wq_val wn rfl (fun _ _ => (rv_move rfl)) ?_
        refine wq_val wn rfl (fun _ _ => (rv_mul rfl rfl)) ?_
        refine wq_val wn rfl (fun _ _ => (rv_add rfl rfl)) ?_
        refine wq_val wn rfl (fun _ _ => (rv_move rfl)) ?_
        refine wq_val wn rfl (fun _ _ => (rv_nilCheck rfl)) ?_
        refine wq_val wn rfl (fun _ _ => (rv_fieldAddr ff135_0 rfl)) ?_
        refine wq_val wn rfl (rq_loadm1 tf33 rfl (.head _) rfl) ?_
        refine wq_val wn rfl (fun _ _ => (rv_len (t := tU8) Try.underlying33 rfl (SliceAt.mono hl14 hs5))) ?_
        obtain ⟨x47, hx48, h49⟩ := Option.bind_eq_some_iff.1 h40
        refine wq_val wn rfl (fun _ _ => (rv_rem rfl rfl hx48)) ?_
        obtain ⟨x50, hx51, h52⟩ := Option.bind_eq_some_iff.1 h49
        refine wq_indexAddr (t := tU8) wn rfl Try.underlying33 tf5 rfl rfl (SliceAt.mono hl14 hs5) hx51 ?_
        intro b53 o54 u55 hu56 ha57
        obtain rfl := hu56
        have ha58 : AtK _ b53 o54 [iv8 x50] := ha57
        refine wq_val wn rfl (rq_load1 tf5 rfl (ha58 0 _ rfl)) ?_
        refine wq_val wn rfl (fun _ _ => (rv_b2i Try.underlying5 Try.underlying3 rfl)) ?_
        refine wq_val wn rfl (fun _ _ => (rv_mul rfl rfl)) ?_
        refine wq_val wn rfl (fun _ _ => (rv_add rfl rfl)) ?_
        refine wq_val wn rfl (fun _ _ => (rv_move rfl)) ?_
        refine wq_val wn rfl (fun _ _ => (rv_mul rfl rfl)) ?_
        refine wq_val wn rfl (fun _ _ => (rv_add rfl rfl)) ?_
        refine wq_val wn rfl (fun _ _ => (rv_move rfl)) ?_
        refine wq_val wn rfl (fun _ _ => (rv_move rfl)) ?_
        refine wq_val wn rfl (fun _ _ => (rv_nilCheck rfl)) ?_
        refine wq_val wn rfl (fun _ _ => (rv_fieldAddr ff135_0 rfl)) ?_
        refine wq_val wn rfl (rq_loadm1 tf33 rfl (.head _) rfl) ?_
        refine wq_val wn rfl (fun _ _ => (rv_len (t := tU8) Try.underlying33 rfl (SliceAt.mono hl14 hs5))) ?_
        obtain ⟨x59, hx60, h61⟩ := Option.bind_eq_some_iff.1 h52
        refine wq_val wn rfl (fun _ _ => (rv_quo rfl rfl hx60)) ?_
        refine wq_val wn rfl (fun _ _ => (rv_mul rfl rfl)) ?_
        refine wq_val wn rfl (fun _ _ => (rv_add rfl rfl)) ?_
        obtain ⟨x62, hx63, h64⟩ := Option.bind_eq_some_iff.1 h61
        have e65 := Option.some.inj hx63
        refine wq_val wn rfl (fun _ _ => (rv_as rfl (congrArg (Value.int .i64) e65))) ?_
        refine wq_nil ?_
        rintro w67 ⟨K66, hS68, hl69⟩
        refine qe_seq ?_
        refine wc_seq ?_
        refine wc_region ?_
        refine wl_val wn rfl (rv_move rfl) ?_
        refine wl_val wn rfl (rv_move rfl) ?_
        obtain ⟨x70, hx71, h72⟩ := Option.bind_eq_some_iff.1 h64
        refine wl_val wn rfl (rv_quo rfl rfl hx71) ?_
        refine wl_val wn rfl (rv_xor rfl rfl) ?_
        refine wl_val wn rfl (rv_assign rfl) ?_
        refine wl_nil ?_
        refine qe_seq ?_
        refine wc_seq ?_
        refine wc_region ?_
        refine wl_val wn rfl (rv_move rfl) ?_
        refine wl_val wn rfl (rv_move rfl) ?_
        obtain ⟨x73, hx74, h75⟩ := Option.bind_eq_some_iff.1 h72
        refine wl_val wn rfl (rv_rem rfl rfl hx74) ?_
        refine wl_val wn rfl (rv_assign rfl) ?_
        refine wl_nil ?_
        refine qe_seq ?_
        refine wc_ret ?_
        obtain rfl := Option.some.inj h75
        exact qe_ret (vs := [_]) Try.results56 ⟨rfl, trivial⟩ ⟨a2, n3, c4, K66, rfl, hS68, (rng_rem (w64_rng _) hx74), (SliceAt.mono (hl14.trans hl69) hs5), (w64_rng _)⟩

theorem ok_spec_l13Less (F : Nat) {w : World} {K : KMap} {p0_a : GHit} {p1_b : GHit} {r : Bool} (hS : SH w K [] w K []) (hr1 : rng64 p0_a.Doc) (hr2 : rng64 p0_a.Points) (hr3 : rng64 p1_b.Doc) (hr4 : rng64 p1_b.Points) (hm : M.spec_l13Less F p0_a p1_b = some r) :
    Calls Try.prog 121 #[.agg #[.int .i64 p0_a.Doc, .int .i64 p0_a.Points], .agg #[.int .i64 p1_b.Doc, .int .i64 p1_b.Points]] w fun e w' => ∃ (K' : KMap), e = .returned (.bool r) ∧ SH w K [] w' K' [] := by
  rw [M.spec_l13Less] at hm
  refine calls_in Try.func121 rfl Try.ntmps121 rfl ?_
  refine wc_seq ?_
  refine wc_region ?_
  refine wl_box wn rfl rfl hS ?_
  intro g5 w6 hS7
  have hS8 : SH _ _ _ _ _ [obj g5 [.int .i64 p0_a.Doc, .int .i64 p0_a.Points] 72] := hS7
  refine wl_box wn rfl rfl hS8 ?_
  intro g9 w10 hS11
  have hS12 : SH _ _ _ _ _ [obj g9 [.int .i64 p1_b.Doc, .int .i64 p1_b.Points] 72, _] := hS11
  refine wl_val wn rfl (rv_assign (v := .bool false) rfl) ?_
  refine wl_nil ?_
  refine qe_seq ?_
  refine wc_seq ?_
  refine wc_region ?_
  refine wl_val wn rfl (rv_fieldAddr ff72_1 rfl) ?_
  refine wl_val wn rfl (rv_loadm1 tf3 rfl (.tail _ (.head _)) hS12 rfl) ?_
  refine wl_val wn rfl (rv_fieldAddr ff72_1 rfl) ?_
  refine wl_val wn rfl (rv_loadm1 tf3 rfl (.head _) hS12 rfl) ?_
  refine wl_val wn rfl (rv_gtr rfl rfl) ?_
  refine wl_val wn rfl (rv_move rfl) ?_
  rcases bool_tf (decide (p1_b.Points < p0_a.Points)) with hb13 | hb13
  · have h14 := cond_t hb13 hm
    refine wl_un (ug rfl rfl hb13) rfl ?_
    refine wl_un (ug rfl rfl hb13) rfl ?_
    refine wl_un (ug rfl rfl hb13) rfl ?_
    refine wl_un (ug rfl rfl hb13) rfl ?_
    refine wl_un (ug rfl rfl hb13) rfl ?_
    refine wl_un (ug rfl rfl hb13) rfl ?_
    refine wl_un (uu rfl rfl) rfl ?_
    refine wl_un (uu rfl rfl) rfl ?_
    refine wl_un (uu rfl rfl) rfl ?_
    refine wl_un (uu rfl rfl) rfl ?_
    refine wl_un (uu rfl rfl) rfl ?_
    refine wl_un (ug rfl rfl hb13) rfl ?_
    refine wl_val wn rfl (rv_pick_t (v := .bool true) rfl hb13 rfl) ?_
    refine wl_val wn rfl (rv_assign rfl) ?_
    refine wl_nil ?_
    refine qe_seq ?_
    refine wc_ret ?_
    obtain rfl := Option.some.inj h14
    have hS15 : SH _ _ _ _ _ [] := SH.sublist hS12 (.cons _ (.cons _ .slnil))
    exact qe_ret (vs := [_]) Try.results121 ⟨rfl, trivial⟩ ⟨K, rfl, hS15⟩
  · have h14 := cond_f hb13 hm
    refine wl_val (wg rfl rfl hb13) rfl (rv_fieldAddr ff72_1 rfl) ?_
    refine wl_val (wg rfl rfl hb13) rfl (rv_loadm1 tf3 rfl (.tail _ (.head _)) hS12 rfl) ?_
    refine wl_val (wg rfl rfl hb13) rfl (rv_fieldAddr ff72_1 rfl) ?_
    refine wl_val (wg rfl rfl hb13) rfl (rv_loadm1 tf3 rfl (.head _) hS12 rfl) ?_
    refine wl_val (wg rfl rfl hb13) rfl (rv_eql rfl rfl) ?_
    refine wl_val (wg rfl rfl hb13) rfl (rv_move rfl) ?_
    rcases bool_tf ((p0_a.Points == p1_b.Points)) with hb16 | hb16
    · have h17 := cond_t hb16 h14
      refine wl_val (wg rfl rfl hb16) rfl (rv_fieldAddr ff72_0 rfl) ?_
      refine wl_val (wg rfl rfl hb16) rfl (rv_loadm1 tf3 rfl (.tail _ (.head _)) hS12 rfl) ?_
      refine wl_val (wg rfl rfl hb16) rfl (rv_fieldAddr ff72_0 rfl) ?_
      refine wl_val (wg rfl rfl hb16) rfl (rv_loadm1 tf3 rfl (.head _) hS12 rfl) ?_
      refine wl_val (wg rfl rfl hb16) rfl (rv_lss rfl rfl) ?_
      refine wl_val (wg rfl rfl hb13) rfl (rv_pick_t rfl hb16 rfl) ?_
      refine wl_val wn rfl (rv_pick_f rfl hb13 rfl) ?_
      refine wl_val wn rfl (rv_assign rfl) ?_
      refine wl_nil ?_
      refine qe_seq ?_
      refine wc_ret ?_
      obtain rfl := Option.some.inj h17
      have hS18 : SH _ _ _ _ _ [] := SH.sublist hS12 (.cons _ (.cons _ .slnil))
      exact qe_ret (vs := [_]) Try.results121 ⟨rfl, trivial⟩ ⟨K, rfl, hS18⟩
    · have h17 := cond_f hb16 h14
      refine wl_un (ug rfl rfl hb16) rfl ?_
      refine wl_un (ug rfl rfl hb16) rfl ?_
      refine wl_un (ug rfl rfl hb16) rfl ?_
      refine wl_un (ug rfl rfl hb16) rfl ?_
      refine wl_un (ug rfl rfl hb16) rfl ?_
      refine wl_val (wg rfl rfl hb13) rfl (rv_pick_f (v := .bool false) rfl hb16 rfl) ?_
      refine wl_val wn rfl (rv_pick_f rfl hb13 rfl) ?_
      refine wl_val wn rfl (rv_assign rfl) ?_
      refine wl_nil ?_
      refine qe_seq ?_
      refine wc_ret ?_
      obtain rfl := Option.some.inj h17
      have hS19 : SH _ _ _ _ _ [] := SH.sublist hS12 (.cons _ (.cons _ .slnil))
      exact qe_ret (vs := [_]) Try.results121 ⟨rfl, trivial⟩ ⟨K, rfl, hS19⟩

set_option maxHeartbeats 2000000 in
theorem ok_spec_l13Push (F : Nat) {w : World} {K : KMap} {a1 : Option Addr} {n2 c3 : Nat} {p0_list : List GHit} {p1_h : GHit} {p2_most : Int} {r : (List GHit)} (hS : SH w K [] w K []) (hs4 : SliceAt tGHit K a1 n2 c3 p0_list) (hr5 : rng64 p1_h.Doc) (hr6 : rng64 p1_h.Points) (hr7 : rng64 p2_most) (hm : M.spec_l13Push F p0_list p1_h p2_most = some r) :
    Calls Try.prog 90 #[.slice a1 n2 c3, .agg #[.int .i64 p1_h.Doc, .int .i64 p1_h.Points], .int .i64 p2_most] w fun e w' => ∃ (a_1 : Option Addr) (n_2 c_3 : Nat) (K' : KMap), e = .returned (.slice a_1 n_2 c_3) ∧ SH w K [] w' K' [] ∧ SliceAt tGHit K' a_1 n_2 c_3 r := by
  rw [M.spec_l13Push] at hm
  refine calls_in Try.func90 rfl Try.ntmps90 rfl ?_
  refine wc_seq ?_
  refine wc_region ?_
  refine wl_box wn rfl rfl hS ?_
  intro g8 w9 hS10
  have hS11 : SH _ _ _ _ _ [obj g8 [.int .i64 p1_h.Doc, .int .i64 p1_h.Points] 72] := hS10
  refine wl_val wn rfl (rv_assign (v := .slice none 0 0) rfl) ?_
  refine wl_nil ?_
  refine qe_seq ?_
  refine wc_seq ?_
  refine wc_region ?_
  refine wl_val wn rfl (rv_assign (v := .int .i64 0) rfl) ?_
  refine wl_nil ?_
  refine qe_seq ?_
  refine wc_seq ?_
  obtain ⟨o12, h13, h14⟩ := Option.bind_eq_some_iff.1 hm
  refine wc_cutg (fun E' w' => ∃ (K15 : KMap), E' = [(0, .slice a1 n2 c3), (2, .int .i64 p2_most), (4, .pointer (some ⟨g8, 0, none⟩)), (7, .int .i64 o12)] ∧ SH w K [] w' K15 [obj g8 [.int .i64 p1_h.Doc, .int .i64 p1_h.Points] 72] ∧ KLe K K15 ∧ rng64 o12) ?_ ?_
  · refine wc_block ?_
    obtain ⟨r21, h22, h23⟩ := Option.bind_eq_some_iff.1 h13
    refine wc_while' (fun (s20 : Int) E' w' => ∃ (K24 : KMap), E' = [(0, .slice a1 n2 c3), (2, .int .i64 p2_most), (4, .pointer (some ⟨g8, 0, none⟩)), (7, .int .i64 s20)] ∧ SH w K [] w' K24 [obj g8 [.int .i64 p1_h.Doc, .int .i64 p1_h.Points] 72] ∧ KLe K K24 ∧ rng64 s20) h22 ⟨K, rfl, hS11, (KLe.refl _), (by decide : rng64 0)⟩ ⟨rfl, rfl, rfl, rfl, trivial⟩ ?_
    rintro s20 _ w26 r29 h30 hx31 ⟨K24, rfl, hS27, hl25, hr28⟩
    refine wc_seq ?_
    refine wc_seq ?_
    obtain ⟨o32, h33, h34⟩ := Option.bind_eq_some_iff.1 h30
    refine wc_cutg (fun E' w' => ∃ (K35 : KMap), E' = [(0, .slice a1 n2 c3), (2, .int .i64 p2_most), (4, .pointer (some ⟨g8, 0, none⟩)), (7, .int .i64 s20), (20, .bool o32)] ∧ SH w K [] w' K35 [obj g8 [.int .i64 p1_h.Doc, .int .i64 p1_h.Points] 72] ∧ KLe K24 K35) ?_ ?_
    · refine wc_quiet mixed (by kernel_rfl) hS27 ?_
      refine wq_val wn rfl (fun _ _ => (rv_move rfl)) ?_
      refine wq_val wn rfl (fun _ _ => (rv_move rfl)) ?_
      refine wq_val wn rfl (fun _ _ => (rv_len (t := tGHit) Try.underlying68 rfl (SliceAt.mono hl25 hs4))) ?_
      refine wq_val wn rfl (fun _ _ => (rv_lss rfl rfl)) ?_
      refine wq_val wn rfl (fun _ _ => (rv_move rfl)) ?_
      rcases bool_tf (decide (s20 < (p0_list.length : Int))) with hb39 | hb39
      · have h40 := cond_t hb39 h33
        refine wq_val (wg rfl rfl hb39) rfl (fun _ _ => (rv_move rfl)) ?_
        refine wq_val (wg rfl rfl hb39) rfl (fun _ _ => (rv_move rfl)) ?_
        obtain ⟨x41, hx42, h43⟩ := Option.bind_eq_some_iff.1 h40
        refine wq_indexAddr (t := tGHit) (wg rfl rfl hb39) rfl Try.underlying68 tf72 rfl rfl (SliceAt.mono hl25 hs4) hx42 ?_
        intro b44 o45 u46 hu47 ha48
        obtain ⟨rfl, hr49, hr50⟩ := hu47
        have ha51 : AtK _ b44 o45 [.int .i64 x41.Doc, .int .i64 x41.Points] := ha48
        refine wq_val (wg rfl rfl hb39) rfl (rq_loadS (cs := [.int .i64 x41.Doc, .int .i64 x41.Points]) tf72 rfl ha51 rfl) ?_
        refine wq_val (wg rfl rfl hb39) rfl (rq_loadmS (ds := [.int .i64 p1_h.Doc, .int .i64 p1_h.Points]) tf72 rfl (.head _) rfl rfl) ?_
        obtain ⟨r52, hx53, h54⟩ := Option.bind_eq_some_iff.1 h43
        refine wq_call (v := .bool r52) (wg rfl rfl hb39) rfl (fun _ => rt_call (vs := [.agg #[.int .i64 x41.Doc, .int .i64 x41.Points], .agg #[.int .i64 p1_h.Doc, .int .i64 p1_h.Points]]) co121 rfl) (fun w57 ⟨K55, hS56, hl58⟩ => ((ok_spec_l13Less F) hS56.enter0 hr49 hr50 hr5 hr6 hx53).mono fun e w' ⟨K', he, hS'⟩ => ⟨he, K', hS56.call0 hS', hl58.trans hS'.le⟩) ?_
        refine wq_val wn rfl (fun _ _ => (rv_pick_t rfl hb39 rfl)) ?_
        refine wq_nil ?_
        rintro w60 ⟨K59, hS61, hl62⟩
        obtain rfl := Option.some.inj h54
        exact qe_mid' ⟨K59, rfl, hS61, hl62⟩ ⟨rfl, rfl, rfl, rfl, rfl, trivial⟩
      · have h40 := cond_f hb39 h33
        refine wq_un (ug rfl rfl hb39) rfl ?_
        refine wq_un (ug rfl rfl hb39) rfl ?_
        refine wq_un (ug rfl rfl hb39) rfl ?_
        refine wq_un (ug rfl rfl hb39) rfl ?_
        refine wq_un (ug rfl rfl hb39) rfl ?_
        refine wq_un (ug rfl rfl hb39) rfl ?_
        refine wq_val wn rfl (fun _ _ => (rv_pick_f (v := .bool false) rfl hb39 rfl)) ?_
        refine wq_nil ?_
        rintro w64 ⟨K63, hS65, hl66⟩
        obtain rfl := Option.some.inj h40
        exact qe_mid' ⟨K63, rfl, hS65, hl66⟩ ⟨rfl, rfl, rfl, rfl, rfl, trivial⟩
    · rintro _ w37 ⟨K35, rfl, hS38, hl36⟩
      refine qe_seq ?_
      refine wc_cond rfl (fun hb67 => ?_) (fun hb67 => ?_)
      · have h68 := cond_t hb67 h34
        refine wc_skip ?_
        refine qe_seq ?_
        refine wc_block ?_
        refine wc_region ?_
        refine wl_val wn rfl (rv_move rfl) ?_
        refine wl_val wn rfl (rv_add rfl rfl) ?_
        refine wl_val wn rfl (rv_assign rfl) ?_
        refine wl_nil ?_
        refine qe_block ?_
        obtain rfl := Option.some.inj h68
        exact qe_mid' ⟨_, rfl, K35, rfl, hS38, (hl25.trans hl36), (w64_rng _)⟩ ⟨rfl, rfl, rfl, rfl, trivial⟩
      · have h68 := cond_f hb67 h34
        refine wc_exit ?_
        refine qe_then_exit ?_
        refine qe_then_exit ?_
        obtain rfl := Option.some.inj h68
        have e69 := hx31 _ rfl
        subst e69
        refine qe_block_eq ?_
        obtain rfl := Option.some.inj h23
        exact qe_mid' ⟨K35, rfl, hS38, (hl25.trans hl36), hr28⟩ ⟨rfl, rfl, rfl, rfl, trivial⟩
  · rintro _ w17 ⟨K15, rfl, hS18, hl16, hr19⟩
    refine qe_seq ?_
    refine wc_seq ?_
    refine wc_region ?_
    refine wl_buildSlice0 tGHit wn rfl Try.underlying68 tf72 hS18 ?_
    intro a70 w71 K72 hl73 hs74 hS75
    refine wl_val wn rfl (rv_move rfl) ?_
    refine wl_val wn rfl (rv_move rfl) ?_
    obtain ⟨x76, hx77, h78⟩ := Option.bind_eq_some_iff.1 h14
    refine wl_sl_h (t := tGHit) wn rfl Try.underlying68 tf72 rfl rfl (SliceAt.mono (hl16.trans hl73) hs4) hx77 ?_
    intro a79 n80 c81 hs82
    obtain ⟨x83, hx84, h85⟩ := Option.bind_eq_some_iff.1 h78
    refine wl_append (t := tGHit) wn rfl Try.underlying68 tf72 rfl rfl rfl rfl rfl hs74 hs82 hx84 hS75 ?_
    intro a86 n87 c88 w89 K90 hl91 hs92 hS93
    refine wl_val wn rfl (rv_assign rfl) ?_
    refine wl_nil ?_
    refine qe_seq ?_
    refine wc_seq ?_
    refine wc_region ?_
    refine wl_val wn rfl (rv_move rfl) ?_
    refine wl_val wn rfl (rv_loadmS (ds := [.int .i64 p1_h.Doc, .int .i64 p1_h.Points]) tf72 rfl (.tail _ (.head _)) hS93 rfl rfl) ?_
    refine wl_buildSlice (t := tGHit) (n := 1) (pv := [(0, .agg #[.int .i64 p1_h.Doc, .int .i64 p1_h.Points])]) (cs := [.int .i64 p1_h.Doc, .int .i64 p1_h.Points]) (xs := [p1_h]) wn rfl Try.underlying68 tf72 rfl rfl rfl (by kernel_rfl) rfl rfl (lit_cons (u := .agg #[.int .i64 p1_h.Doc, .int .i64 p1_h.Points]) (z := p1_h) ⟨rfl, hr5, hr6⟩ lit_nil) hS93 ?_
    intro a94 w95 K96 hl97 hs98 hS99
    have hS100 : SH _ _ _ _ _ [_, _, _] := SH.front (p := [_]) hS99
    obtain ⟨x101, hx102, h103⟩ := Option.bind_eq_some_iff.1 h85
    refine wl_append (t := tGHit) wn rfl Try.underlying68 tf72 rfl rfl rfl rfl rfl (SliceAt.mono hl97 hs92) hs98 hx102 hS100 ?_
    intro a104 n105 c106 w107 K108 hl109 hs110 hS111
    refine wl_val wn rfl (rv_assign rfl) ?_
    refine wl_nil ?_
    refine qe_seq ?_
    refine wc_seq ?_
    refine wc_region ?_
    refine wl_val wn rfl (rv_move rfl) ?_
    refine wl_val wn rfl (rv_move rfl) ?_
    refine wl_val wn rfl (rv_move rfl) ?_
    obtain ⟨x112, hx113, h114⟩ := Option.bind_eq_some_iff.1 h103
    refine wl_sl_l (t := tGHit) wn rfl Try.underlying68 tf72 rfl rfl (SliceAt.mono ((((hl16.trans hl73).trans hl91).trans hl97).trans hl109) hs4) hx113 ?_
    intro a115 n116 c117 hs118
    obtain ⟨x119, hx120, h121⟩ := Option.bind_eq_some_iff.1 h114
    refine wl_append (t := tGHit) wn rfl Try.underlying68 tf72 rfl rfl rfl rfl rfl hs110 hs118 hx120 hS111 ?_
    intro a122 n123 c124 w125 K126 hl127 hs128 hS129
    refine wl_val wn rfl (rv_assign rfl) ?_
    refine wl_nil ?_
    refine qe_seq ?_
    refine wc_seq ?_
    refine wc_seq ?_
    refine wc_region ?_
    refine wl_val wn rfl (rv_move rfl) ?_
    refine wl_val wn rfl (rv_len (t := tGHit) Try.underlying68 rfl hs128) ?_
    refine wl_val wn rfl (rv_move rfl) ?_
    refine wl_val wn rfl (rv_gtr rfl rfl) ?_
    refine wl_nil ?_
    refine qe_seq ?_
    refine wc_cond rfl (fun hb130 => ?_) (fun hb130 => ?_)
    · have h131 := cond_t hb130 h121
      refine wc_seq ?_
      refine wc_region ?_
      refine wl_val wn rfl (rv_move rfl) ?_
      refine wl_val wn rfl (rv_move rfl) ?_
      obtain ⟨x132, hx133, h134⟩ := Option.bind_eq_some_iff.1 h131
      refine wl_sl_h (t := tGHit) wn rfl Try.underlying68 tf72 rfl rfl hs128 hx133 ?_
      intro a135 n136 c137 hs138
      refine wl_val wn rfl (rv_assign rfl) ?_
      refine wl_nil ?_
      refine qe_seq ?_
      refine wc_ret ?_
      refine qe_then_ret ?_
      obtain rfl := Option.some.inj h134
      have hS139 : SH _ _ _ _ _ [] := SH.sublist hS129 (.cons _ (.cons _ (.cons _ .slnil)))
      exact qe_ret (vs := [_]) Try.results90 ⟨rfl, trivial⟩ ⟨a135, n136, c137, K126, rfl, hS139, hs138⟩
    · have h131 := cond_f hb130 h121
      refine wc_skip ?_
      refine qe_seq ?_
      refine wc_seq ?_
      refine wc_region ?_
      refine wl_val wn rfl (rv_move rfl) ?_
      refine wl_val wn rfl (rv_assign rfl) ?_
      refine wl_nil ?_
      refine qe_seq ?_
      refine wc_ret ?_
      obtain rfl := Option.some.inj h131
      have hS140 : SH _ _ _ _ _ [] := SH.sublist hS129 (.cons _ (.cons _ (.cons _ .slnil)))
      exact qe_ret (vs := [_]) Try.results90 ⟨rfl, trivial⟩ ⟨a122, n123, c124, K126, rfl, hS140, hs128⟩

set_option maxHeartbeats 2000000 in
theorem ok_spec_l30Hits (F : Nat) {w : World} {K : KMap} {g1 : Nat} {a2 : Option Addr} {n3 c4 : Nat} {p0_r : GL30Rd} {r : (List GHit) × GL30Rd} (hS : SH w K (List.filterMap Item.g [obj g1 [.slice a2 n3 c4, .int .i64 p0_r.p_] 135]) w K [obj g1 [.slice a2 n3 c4, .int .i64 p0_r.p_] 135]) (hs5 : SliceAt tU8 K a2 n3 c4 p0_r.b_) (hr6 : rng64 p0_r.p_) (hm : M.spec_l30Hits F p0_r = some r) :
    Calls Try.prog 84 #[.pointer (some ⟨g1, 0, none⟩)] w fun e w' => ∃ (a_1 : Option Addr) (n_2 c_3 : Nat) (a_5 : Option Addr) (n_6 c_7 : Nat) (K' : KMap), e = .returned (.slice a_1 n_2 c_3) ∧ SH w K (List.filterMap Item.g [obj g1 [.slice a2 n3 c4, .int .i64 p0_r.p_] 135]) w' K' [obj g1 [.slice a_5 n_6 c_7, .int .i64 r.2.p_] 135] ∧ SliceAt tGHit K' a_1 n_2 c_3 r.1 ∧ SliceAt tU8 K' a_5 n_6 c_7 r.2.b_ ∧ rng64 r.2.p_ := by
  rw [M.spec_l30Hits] at hm
  refine calls_in Try.func84 rfl Try.ntmps84 rfl ?_
  refine wc_seq ?_
  refine wc_region ?_
  refine wl_val wn rfl (rv_assign (v := .slice none 0 0) rfl) ?_
  refine wl_nil ?_
  refine qe_seq ?_
  refine wc_seq ?_
  refine wc_region ?_
  refine wl_buildSlice0 tGHit wn rfl Try.underlying68 tf72 hS ?_
  intro a7 w8 K9 hl10 hs11 hS12
  refine wl_val wn rfl (rv_assign rfl) ?_
  refine wl_nil ?_
  refine qe_seq ?_
  refine wc_seq ?_
  refine wc_seq ?_
  refine wc_region ?_
  refine wl_val wn rfl (rv_move rfl) ?_
  obtain ⟨r13, hx14, h15⟩ := Option.bind_eq_some_iff.1 hm
  have hS16 : SH _ _ _ _ _ [_, _] := SH.front (p := [_]) hS12
  refine wl_call wn rfl (rt_call (vs := [.pointer (some ⟨g1, 0, none⟩), .int .i64 6]) co56 rfl) ((ok_spec_l30Rd_pick F) (SH.enter (Lin := [_]) hS16) (SliceAt.mono hl10 hs5) hr6 (by decide : rng64 6) hx14) ?_
  rintro e26 w18 ⟨a21, n22, c23, K17, rfl, hS19, hr20, hs24, hr25⟩
  refine ⟨_, rfl, ?_⟩
  have hS27 : SH _ _ _ _ _ [_, _] := SH.call (Lin := [_]) hS16 hS19
  refine wl_val wn rfl (rv_assign rfl) ?_
  refine wl_nil ?_
  refine qe_seq ?_
  obtain ⟨o28, h29, h30⟩ := Option.bind_eq_some_iff.1 h15
  refine wc_cutg (fun E' w' => ∃ (a35 : Option Addr) (n36 c37 : Nat) (a39 : Option Addr) (n40 c41 : Nat) (K31 : KMap), E' = [(0, .pointer (some ⟨g1, 0, none⟩)), (3, .slice a35 n36 c37)] ∧ SH w K (List.filterMap Item.g [obj g1 [.slice a2 n3 c4, .int .i64 p0_r.p_] 135]) w' K31 [obj g1 [.slice a39 n40 c41, .int .i64 o28.2.p_] 135] ∧ KLe K17 K31 ∧ SliceAt tGHit K31 a35 n36 c37 o28.1 ∧ SliceAt tU8 K31 a39 n40 c41 o28.2.b_ ∧ rng64 o28.2.p_) ?_ ?_
  · refine wc_block ?_
    obtain ⟨r45, h46, h47⟩ := Option.bind_eq_some_iff.1 h29
    have hS62 : SH _ _ _ _ _ [_] := SH.sublist hS27 (.cons_cons _ (.cons _ .slnil))
    refine wc_while' (fun (s44 : (List GHit) × Int × GL30Rd) E' w' => ∃ (a52 : Option Addr) (n53 c54 : Nat) (a57 : Option Addr) (n58 c59 : Nat) (K48 : KMap), E' = [(0, .pointer (some ⟨g1, 0, none⟩)), (3, .slice a52 n53 c54), (4, .int .i64 s44.2.1)] ∧ SH w K (List.filterMap Item.g [obj g1 [.slice a2 n3 c4, .int .i64 p0_r.p_] 135]) w' K48 [obj g1 [.slice a57 n58 c59, .int .i64 s44.2.2.p_] 135] ∧ KLe K17 K48 ∧ SliceAt tGHit K48 a52 n53 c54 s44.1 ∧ rng64 s44.2.1 ∧ SliceAt tU8 K48 a57 n58 c59 s44.2.2.b_ ∧ rng64 s44.2.2.p_) h46 ⟨a7, 0, 0, a21, n22, c23, K17, rfl, hS62, (KLe.refl _), (SliceAt.mono hS19.le hs11), hr20, hs24, hr25⟩ ⟨rfl, rfl, rfl, trivial⟩ ?_
    rintro s44 _ w50 r63 h64 hx65 ⟨a52, n53, c54, a57, n58, c59, K48, rfl, hS51, hl49, hs55, hr56, hs60, hr61⟩
    refine wc_seq ?_
    refine wc_seq ?_
    refine wc_region ?_
    refine wl_val wn rfl (rv_move rfl) ?_
    refine wl_val wn rfl (rv_gtr rfl rfl) ?_
    refine wl_nil ?_
    refine qe_seq ?_
    refine wc_cond rfl (fun hb66 => ?_) (fun hb66 => ?_)
    · have h67 := cond_t hb66 h64
      refine wc_skip ?_
      refine qe_seq ?_
      refine wc_seq ?_
      refine wc_block ?_
      refine wc_seq ?_
      refine wc_region ?_
      refine wl_val wn rfl (rv_move rfl) ?_
      obtain ⟨r68, hx69, h70⟩ := Option.bind_eq_some_iff.1 h67
      refine wl_call wn rfl (rt_call (vs := [.pointer (some ⟨g1, 0, none⟩), .int .i64 8]) co56 rfl) ((ok_spec_l30Rd_pick F) (SH.enter (Lin := [_]) hS51) hs60 hr61 (by decide : rng64 8) hx69) ?_
      rintro e80 w72 ⟨a75, n76, c77, K71, rfl, hS73, hr74, hs78, hr79⟩
      refine ⟨_, rfl, ?_⟩
      have hS81 : SH _ _ _ _ _ [_] := SH.call (Lin := [_]) hS51 hS73
      refine wl_val wn rfl (rv_add rfl rfl) ?_
      refine wl_val wn rfl (rv_move rfl) ?_
      obtain ⟨r82, hx83, h84⟩ := Option.bind_eq_some_iff.1 h70
      refine wl_call wn rfl (rt_call (vs := [.pointer (some ⟨g1, 0, none⟩), .int .i64 5]) co56 rfl) ((ok_spec_l30Rd_pick F) (SH.enter (Lin := [_]) hS81) hs78 hr79 (by decide : rng64 5) hx83) ?_
      rintro e94 w86 ⟨a89, n90, c91, K85, rfl, hS87, hr88, hs92, hr93⟩
      refine ⟨_, rfl, ?_⟩
      have hS95 : SH _ _ _ _ _ [_] := SH.call (Lin := [_]) hS81 hS87
      refine wl_val wn rfl (rv_add rfl rfl) ?_
      refine wl_val wn rfl (rv_build (cs := #[.int .i64 (w64 ((1 : Int) + r68.1)), .int .i64 (w64 ((1 : Int) + r82.1))]) sp72 tf72 rfl (by kernel_rfl)) ?_
      refine wl_alloc wn rfl tf72 hS95 ?_
      intro g96 w97 hS98
      have hS99 : SH _ _ _ _ _ [obj g96 [.int .i64 0, .int .i64 0] 72, _] := hS98
      refine wl_store (cs' := [.int .i64 (w64 ((1 : Int) + r68.1)), .int .i64 (w64 ((1 : Int) + r82.1))]) (v := .agg #[.int .i64 (w64 ((1 : Int) + r68.1)), .int .i64 (w64 ((1 : Int) + r82.1))]) wn tf72 rfl rfl rfl (by simp [Value.cells, Value.oneCell']) hS99 rfl rfl ?_
      intro w100 hS101
      refine wl_nil ?_
      refine qe_seq ?_
      refine wc_seq ?_
      refine wc_region ?_
      refine wl_val wn rfl (rv_assign (v := .bool false) rfl) ?_
      refine wl_nil ?_
      refine qe_seq ?_
      refine wc_seq ?_
      refine wc_seq ?_
      refine wc_region ?_
      refine wl_val wn rfl (rv_assign (v := .int .i64 0) rfl) ?_
      refine wl_nil ?_
      refine qe_seq ?_
      obtain ⟨o102, h103, h104⟩ := Option.bind_eq_some_iff.1 h84
      refine wc_cutg (fun E' w' => ∃ (K105 : KMap), E' = [(0, .pointer (some ⟨g1, 0, none⟩)), (3, .slice a52 n53 c54), (4, .int .i64 s44.2.1), (5, .pointer (some ⟨g96, 0, none⟩)), (6, .bool o102)] ∧ SH w K (List.filterMap Item.g [obj g1 [.slice a2 n3 c4, .int .i64 p0_r.p_] 135]) w' K105 [obj g1 [.slice a89 n90 c91, .int .i64 r82.2.p_] 135, obj g96 [.int .i64 (w64 ((1 : Int) + r68.1)), .int .i64 (w64 ((1 : Int) + r82.1))] 72] ∧ KLe K85 K105) ?_ ?_
      · refine wc_block ?_
        obtain ⟨r110, h111, h112⟩ := Option.bind_eq_some_iff.1 h103
        have hS118 : SH _ _ _ _ _ [_, _] := SH.front (p := [_]) hS101
        refine wc_while' (fun (s109 : Bool × Int) E' w' => ∃ (K113 : KMap), E' = [(0, .pointer (some ⟨g1, 0, none⟩)), (3, .slice a52 n53 c54), (4, .int .i64 s44.2.1), (5, .pointer (some ⟨g96, 0, none⟩)), (6, .bool s109.1), (7, .int .i64 s109.2)] ∧ SH w K (List.filterMap Item.g [obj g1 [.slice a2 n3 c4, .int .i64 p0_r.p_] 135]) w' K113 [obj g1 [.slice a89 n90 c91, .int .i64 r82.2.p_] 135, obj g96 [.int .i64 (w64 ((1 : Int) + r68.1)), .int .i64 (w64 ((1 : Int) + r82.1))] 72] ∧ KLe K85 K113 ∧ rng64 s109.2) h111 ⟨K85, rfl, hS118, (KLe.refl _), (by decide : rng64 0)⟩ ⟨rfl, rfl, rfl, rfl, rfl, rfl, trivial⟩ ?_
        rintro s109 _ w115 r119 h120 hx121 ⟨K113, rfl, hS116, hl114, hr117⟩
        refine wc_seq ?_
        refine wc_seq ?_
        refine wc_region ?_
        refine wl_val wn rfl (rv_move rfl) ?_
        refine wl_val wn rfl (rv_move rfl) ?_
        refine wl_val wn rfl (rv_len (t := tGHit) Try.underlying68 rfl (SliceAt.mono ((hS73.le.trans hS87.le).trans hl114) hs55)) ?_
        refine wl_val wn rfl (rv_lss rfl rfl) ?_
        refine wl_nil ?_
        refine qe_seq ?_
        refine wc_cond rfl (fun hb122 => ?_) (fun hb122 => ?_)
        · have h123 := cond_t hb122 h120
          refine wc_skip ?_
          refine qe_seq ?_
          refine wc_seq ?_
          refine wc_block ?_
          obtain ⟨o124, h125, h126⟩ := Option.bind_eq_some_iff.1 h123
          refine wc_cutg (fun E' w' => ∃ (K127 : KMap), E' = [(0, .pointer (some ⟨g1, 0, none⟩)), (3, .slice a52 n53 c54), (4, .int .i64 s44.2.1), (5, .pointer (some ⟨g96, 0, none⟩)), (6, .bool o124), (7, .int .i64 s109.2)] ∧ SH w K (List.filterMap Item.g [obj g1 [.slice a2 n3 c4, .int .i64 p0_r.p_] 135]) w' K127 [obj g1 [.slice a89 n90 c91, .int .i64 r82.2.p_] 135, obj g96 [.int .i64 (w64 ((1 : Int) + r68.1)), .int .i64 (w64 ((1 : Int) + r82.1))] 72] ∧ KLe K113 K127) ?_ ?_
          · refine wc_quiet mixed (by kernel_rfl) hS116 ?_
            refine wq_val wn rfl (fun _ _ => (rv_move rfl)) ?_
            refine wq_val wn rfl (fun _ _ => (rv_move rfl)) ?_
            rcases bool_tf (s109.1) with hb131 | hb131
            · have h132 := cond_t hb131 h125
              refine wq_un (ug rfl rfl hb131) rfl ?_
              refine wq_un (ug rfl rfl hb131) rfl ?_
              refine wq_un (ug rfl rfl hb131) rfl ?_
              refine wq_un (ug rfl rfl hb131) rfl ?_
              refine wq_un (ug rfl rfl hb131) rfl ?_
              refine wq_un (ug rfl rfl hb131) rfl ?_
              refine wq_un (ug rfl rfl hb131) rfl ?_
              refine wq_un (ug rfl rfl hb131) rfl ?_
              refine wq_val wn rfl (fun _ _ => (rv_pick_t (v := .bool true) rfl hb131 rfl)) ?_
              refine wq_val wn rfl (fun _ _ => (rv_assign rfl)) ?_
              refine wq_nil ?_
              rintro w134 ⟨K133, hS135, hl136⟩
              obtain rfl := Option.some.inj h132
              exact qe_mid' ⟨K133, rfl, hS135, hl136⟩ ⟨rfl, rfl, rfl, rfl, rfl, rfl, trivial⟩
            · have h132 := cond_f hb131 h125
              refine wq_val (wg rfl rfl hb131) rfl (fun _ _ => (rv_move rfl)) ?_
              refine wq_val (wg rfl rfl hb131) rfl (fun _ _ => (rv_move rfl)) ?_
              obtain ⟨x137, hx138, h139⟩ := Option.bind_eq_some_iff.1 h132
              refine wq_indexAddr (t := tGHit) (wg rfl rfl hb131) rfl Try.underlying68 tf72 rfl rfl (SliceAt.mono ((hS73.le.trans hS87.le).trans hl114) hs55) hx138 ?_
              intro b140 o141 u142 hu143 ha144
              obtain ⟨rfl, hr145, hr146⟩ := hu143
              have ha147 : AtK _ b140 o141 [.int .i64 x137.Doc, .int .i64 x137.Points] := ha144
              refine wq_val (wg rfl rfl hb131) rfl (fun _ _ => (rv_fieldAddr ff72_0 rfl)) ?_
              refine wq_val (wg rfl rfl hb131) rfl (rq_load1 tf3 rfl (ha147 0 _ rfl)) ?_
              refine wq_val (wg rfl rfl hb131) rfl (fun _ _ => (rv_fieldAddr ff72_0 rfl)) ?_
              refine wq_val (wg rfl rfl hb131) rfl (rq_loadm1 tf3 rfl (.tail _ (.head _)) rfl) ?_
              refine wq_val (wg rfl rfl hb131) rfl (fun _ _ => (rv_eql rfl rfl)) ?_
              refine wq_val wn rfl (fun _ _ => (rv_pick_f rfl hb131 rfl)) ?_
              refine wq_val wn rfl (fun _ _ => (rv_assign rfl)) ?_
              refine wq_nil ?_
              rintro w149 ⟨K148, hS150, hl151⟩
              obtain rfl := Option.some.inj h139
              exact qe_mid' ⟨K148, rfl, hS150, hl151⟩ ⟨rfl, rfl, rfl, rfl, rfl, rfl, trivial⟩
          · rintro _ w129 ⟨K127, rfl, hS130, hl128⟩
            refine qe_block ?_
            refine qe_seq ?_
            refine wc_region ?_
            refine wl_val wn rfl (rv_move rfl) ?_
            refine wl_val wn rfl (rv_add rfl rfl) ?_
            refine wl_val wn rfl (rv_assign rfl) ?_
            refine wl_nil ?_
            obtain rfl := Option.some.inj h126
            exact qe_mid' ⟨_, rfl, K127, rfl, hS130, (hl114.trans hl128), (w64_rng _)⟩ ⟨rfl, rfl, rfl, rfl, rfl, rfl, trivial⟩
        · have h123 := cond_f hb122 h120
          refine wc_exit ?_
          refine qe_then_exit ?_
          refine qe_then_exit ?_
          obtain rfl := Option.some.inj h123
          have e152 := hx121 _ rfl
          subst e152
          refine qe_block_eq ?_
          obtain rfl := Option.some.inj h112
          exact qe_mid' ⟨K113, rfl, hS116, hl114⟩ ⟨rfl, rfl, rfl, rfl, rfl, trivial⟩
      · rintro _ w107 ⟨K105, rfl, hS108, hl106⟩
        refine qe_seq ?_
        refine wc_seq ?_
        refine wc_region ?_
        refine wl_val wn rfl (rv_move rfl) ?_
        refine wl_val wn rfl (rv_not rfl) ?_
        refine wl_nil ?_
        refine qe_seq ?_
        refine wc_cond rfl (fun hb153 => ?_) (fun hb153 => ?_)
        · have h154 := cond_t hb153 h104
          refine wc_region ?_
          refine wl_val wn rfl (rv_move rfl) ?_
          refine wl_val wn rfl (rv_loadmS (ds := [.int .i64 (w64 ((1 : Int) + r68.1)), .int .i64 (w64 ((1 : Int) + r82.1))]) tf72 rfl (.tail _ (.head _)) hS108 rfl rfl) ?_
          obtain ⟨r155, hx156, h157⟩ := Option.bind_eq_some_iff.1 h154
          refine wl_call wn rfl (rt_call (vs := [.slice a52 n53 c54, .agg #[.int .i64 (w64 ((1 : Int) + r68.1)), .int .i64 (w64 ((1 : Int) + r82.1))], .int .i64 16]) co90 rfl) ((ok_spec_l13Push F (p1_h := (GHit.mk (w64 ((1 : Int) + r68.1)) (w64 ((1 : Int) + r82.1))))) hS108.enter0 (SliceAt.mono ((hS73.le.trans hS87.le).trans hl106) hs55) (w64_rng _) (w64_rng _) (by decide : rng64 16) hx156) ?_
          rintro e165 w159 ⟨a161, n162, c163, K158, rfl, hS160, hs164⟩
          refine ⟨_, rfl, ?_⟩
          have hS166 : SH _ _ _ _ _ [_, _] := SH.call0 hS108 hS160
          refine wl_val wn rfl (rv_assign rfl) ?_
          refine wl_nil ?_
          refine qe_block ?_
          refine qe_seq ?_
          refine wc_region ?_
          refine wl_val wn rfl (rv_move rfl) ?_
          refine wl_val wn rfl (rv_sub rfl rfl) ?_
          refine wl_val wn rfl (rv_assign rfl) ?_
          refine wl_nil ?_
          obtain rfl := Option.some.inj h157
          have hS167 : SH _ _ _ _ _ [_] := SH.sublist hS166 (.cons_cons _ (.cons _ .slnil))
          exact qe_mid' ⟨_, rfl, a161, n162, c163, a89, n90, c91, K158, rfl, hS167, ((((hl49.trans hS73.le).trans hS87.le).trans hl106).trans hS160.le), hs164, (w64_rng _), (SliceAt.mono (hl106.trans hS160.le) hs92), hr93⟩ ⟨rfl, rfl, rfl, trivial⟩
        · have h154 := cond_f hb153 h104
          refine wc_skip ?_
          refine qe_block ?_
          refine qe_seq ?_
          refine wc_region ?_
          refine wl_val wn rfl (rv_move rfl) ?_
          refine wl_val wn rfl (rv_sub rfl rfl) ?_
          refine wl_val wn rfl (rv_assign rfl) ?_
          refine wl_nil ?_
          obtain rfl := Option.some.inj h154
          have hS168 : SH _ _ _ _ _ [_] := SH.sublist hS108 (.cons_cons _ (.cons _ .slnil))
          exact qe_mid' ⟨_, rfl, a52, n53, c54, a89, n90, c91, K105, rfl, hS168, (((hl49.trans hS73.le).trans hS87.le).trans hl106), (SliceAt.mono ((hS73.le.trans hS87.le).trans hl106) hs55), (w64_rng _), (SliceAt.mono hl106 hs92), hr93⟩ ⟨rfl, rfl, rfl, trivial⟩
    · have h67 := cond_f hb66 h64
      refine wc_exit ?_
      refine qe_then_exit ?_
      refine qe_then_exit ?_
      obtain rfl := Option.some.inj h67
      have e169 := hx65 _ rfl
      subst e169
      refine qe_block_eq ?_
      obtain rfl := Option.some.inj h47
      exact qe_mid' ⟨a52, n53, c54, a57, n58, c59, K48, rfl, hS51, hl49, hs55, hs60, hr61⟩ ⟨rfl, rfl, trivial⟩
  · rintro _ w33 ⟨a35, n36, c37, a39, n40, c41, K31, rfl, hS34, hl32, hs38, hs42, hr43⟩
    refine qe_seq ?_
    refine wc_seq ?_
    refine wc_region ?_
    refine wl_val wn rfl (rv_move rfl) ?_
    refine wl_val wn rfl (rv_assign rfl) ?_
    refine wl_nil ?_
    refine qe_seq ?_
    refine wc_ret ?_
    obtain rfl := Option.some.inj h30
    exact qe_ret (vs := [_]) Try.results84 ⟨rfl, trivial⟩ ⟨a35, n36, c37, a39, n40, c41, K31, rfl, hS34, hs38, hs42, hr43⟩

theorem ok_spec_l30Rd_one (F : Nat) {w : World} {K : KMap} {g1 : Nat} {a2 : Option Addr} {n3 c4 : Nat} {a7 : Option Addr} {n8 c9 : Nat} {p0_r : GL30Rd} {p1_list : List Int} {r : Int × GL30Rd} (hS : SH w K (List.filterMap Item.g [obj g1 [.slice a2 n3 c4, .int .i64 p0_r.p_] 135]) w K [obj g1 [.slice a2 n3 c4, .int .i64 p0_r.p_] 135]) (hs5 : SliceAt tU8 K a2 n3 c4 p0_r.b_) (hr6 : rng64 p0_r.p_) (hs10 : SliceAt tInt K a7 n8 c9 p1_list) (hm : M.spec_l30Rd_one F p0_r p1_list = some r) :
    Calls Try.prog 85 #[.pointer (some ⟨g1, 0, none⟩), .slice a7 n8 c9] w fun e w' => ∃ (a_2 : Option Addr) (n_3 c_4 : Nat) (K' : KMap), e = .returned (.int .i64 r.1) ∧ SH w K (List.filterMap Item.g [obj g1 [.slice a2 n3 c4, .int .i64 p0_r.p_] 135]) w' K' [obj g1 [.slice a_2 n_3 c_4, .int .i64 r.2.p_] 135] ∧ rng64 r.1 ∧ SliceAt tU8 K' a_2 n_3 c_4 r.2.b_ ∧ rng64 r.2.p_ := by
  rw [M.spec_l30Rd_one] at hm
  refine calls_in Try.func85 rfl Try.ntmps85 rfl ?_
  refine wc_seq ?_
  refine wc_region ?_
  refine wl_val wn rfl (rv_assign (v := .int .i64 0) rfl) ?_
  refine wl_nil ?_
  refine qe_seq ?_
  refine wc_seq ?_
  refine wc_region ?_
  refine wl_val wn rfl (rv_move rfl) ?_
  refine wl_val wn rfl (rv_move rfl) ?_
  refine wl_val wn rfl (rv_move rfl) ?_
  refine wl_val wn rfl (rv_len (t := tInt) Try.underlying120 rfl hs10) ?_
  obtain ⟨r11, hx12, h13⟩ := Option.bind_eq_some_iff.1 hm
  refine wl_call wn rfl (rt_call (vs := [.pointer (some ⟨g1, 0, none⟩), .int .i64 (p1_list.length : Int)]) co56 rfl) ((ok_spec_l30Rd_pick F) (SH.enter (Lin := [_]) hS) hs5 hr6 (rng_nat (SliceAt.max hs10)) hx12) ?_
  rintro e23 w15 ⟨a18, n19, c20, K14, rfl, hS16, hr17, hs21, hr22⟩
  refine ⟨_, rfl, ?_⟩
  have hS24 : SH _ _ _ _ _ [_] := SH.call (Lin := [_]) hS hS16
  obtain ⟨x25, hx26, h27⟩ := Option.bind_eq_some_iff.1 h13
  refine wl_indexAddr (t := tInt) wn rfl Try.underlying120 tf3 rfl rfl (SliceAt.mono hS16.le hs10) hx26 ?_
  intro b28 o29 u30 hu31 ha32
  obtain ⟨rfl, hr33⟩ := hu31
  have ha34 : AtK _ b28 o29 [.int .i64 x25] := ha32
  refine wl_val wn rfl (rv_load1 tf3 rfl hS24 (ha34 0 _ rfl)) ?_
  refine wl_val wn rfl (rv_assign rfl) ?_
  refine wl_nil ?_
  refine qe_seq ?_
  refine wc_ret ?_
  obtain rfl := Option.some.inj h27
  exact qe_ret (vs := [_]) Try.results85 ⟨rfl, trivial⟩ ⟨a18, n19, c20, K14, rfl, hS24, hr33, hs21, hr22⟩

set_option maxHeartbeats 2000000 in
theorem ok_spec_DrawTopMerge (F : Nat) {w : World} {K : KMap} {a1 : Option Addr} {n2 c3 : Nat} {p0_code : List UInt8} {r : (List (List GHit)) × Int} (hS : SH w K [] w K []) (hs4 : SliceAt tU8 K a1 n2 c3 p0_code) (hm : M.spec_DrawTopMerge F p0_code = some r) :
    Calls Try.prog 36 #[.slice a1 n2 c3] w fun e w' => ∃ (a_1 : Option Addr) (n_2 c_3 : Nat) (K' : KMap), e = .returned (.tuple #[.slice a_1 n_2 c_3, .int .i64 r.2]) ∧ SH w K [] w' K' [tail (.slice a_1 n_2 c_3) 68 1] ∧ SliceAt (tSlice tGHit) K' a_1 n_2 c_3 r.1 ∧ rng64 r.2 := by
  rw [M.spec_DrawTopMerge] at hm
  refine calls_in Try.func36 rfl Try.ntmps36 rfl ?_
  refine wc_seq ?_
  refine wc_region ?_
  refine wl_val wn rfl (rv_assign (v := .slice none 0 0) rfl) ?_
  refine wl_val wn rfl (rv_assign (v := .int .i64 0) rfl) ?_
  refine wl_nil ?_
  refine qe_seq ?_
  refine wc_seq ?_
  refine wc_region ?_
  refine wl_val wn rfl (rv_move rfl) ?_
  obtain ⟨r5, hx6, h7⟩ := Option.bind_eq_some_iff.1 hm
  refine wl_call wn rfl (rt_call (vs := [.slice a1 n2 c3]) co54 rfl) ((ok_spec_l30Open F) hS.enter0 hs4 hx6) ?_
  rintro e17 w9 ⟨g11, a12, n13, c14, K8, rfl, hS10, hs15, hr16⟩
  refine ⟨_, rfl, ?_⟩
  have hS18 : SH _ _ _ _ _ [_] := SH.call0 hS hS10
  refine wl_val wn rfl (rv_assign rfl) ?_
  refine wl_nil ?_
  refine qe_seq ?_
  refine wc_seq ?_
  refine wc_region ?_
  refine wl_buildSlice0 (tSlice tGHit) wn rfl Try.underlying65 tf68 hS18 ?_
  intro a19 w20 K21 hl22 hs23 hS24
  refine wl_val wn rfl (rv_assign rfl) ?_
  refine wl_nil ?_
  refine qe_seq ?_
  refine wc_seq ?_
  refine wc_region ?_
  refine wl_val wn rfl (rv_move rfl) ?_
  obtain ⟨r25, hx26, h27⟩ := Option.bind_eq_some_iff.1 h7
  have hS28 : SH _ _ _ _ _ [_, _] := SH.front (p := [_]) hS24
  refine wl_call wn rfl (rt_call (vs := [.pointer (some ⟨g11, 0, none⟩)]) co84 rfl) ((ok_spec_l30Hits F) (SH.enter (Lin := [_]) hS28) (SliceAt.mono hl22 hs15) hr16 hx26) ?_
  rintro e41 w30 ⟨a32, n33, c34, a36, n37, c38, K29, rfl, hS31, hs35, hs39, hr40⟩
  refine ⟨_, rfl, ?_⟩
  have hS42 : SH _ _ _ _ _ [_, _] := SH.call (Lin := [_]) hS28 hS31
  refine wl_val wn rfl (rv_assign rfl) ?_
  refine wl_nil ?_
  refine qe_seq ?_
  refine wc_seq ?_
  refine wc_seq ?_
  refine wc_region ?_
  refine wl_val wn rfl (rv_assign (v := .int .i64 0) rfl) ?_
  refine wl_nil ?_
  refine qe_seq ?_
  obtain ⟨o43, h44, h45⟩ := Option.bind_eq_some_iff.1 h27
  refine wc_cutg (fun E' w' => ∃ (a50 : Option Addr) (n51 c52 : Nat) (a54 : Option Addr) (n55 c56 : Nat) (K46 : KMap), E' = [(4, .pointer (some ⟨g11, 0, none⟩)), (5, .slice a50 n51 c52)] ∧ SH w K [] w' K46 [obj g11 [.slice a54 n55 c56, .int .i64 o43.2.p_] 135, tail (.slice a50 n51 c52) 68 1] ∧ KLe K29 K46 ∧ SliceAt (tSlice tGHit) K46 a50 n51 c52 o43.1 ∧ SliceAt tU8 K46 a54 n55 c56 o43.2.b_ ∧ rng64 o43.2.p_) ?_ ?_
  · refine wc_block ?_
    obtain ⟨r60, h61, h62⟩ := Option.bind_eq_some_iff.1 h44
    refine wc_while' (fun (s59 : (List (List GHit)) × Int × GL30Rd) E' w' => ∃ (a67 : Option Addr) (n68 c69 : Nat) (a72 : Option Addr) (n73 c74 : Nat) (K63 : KMap), E' = [(4, .pointer (some ⟨g11, 0, none⟩)), (5, .slice a67 n68 c69), (6, .slice a32 n33 c34), (7, .int .i64 s59.2.1)] ∧ SH w K [] w' K63 [obj g11 [.slice a72 n73 c74, .int .i64 s59.2.2.p_] 135, tail (.slice a67 n68 c69) 68 1] ∧ KLe K29 K63 ∧ SliceAt (tSlice tGHit) K63 a67 n68 c69 s59.1 ∧ rng64 s59.2.1 ∧ SliceAt tU8 K63 a72 n73 c74 s59.2.2.b_ ∧ rng64 s59.2.2.p_) h61 ⟨a19, 0, 0, a36, n37, c38, K29, rfl, hS42, (KLe.refl _), (SliceAt.mono hS31.le hs23), (by decide : rng64 0), hs39, hr40⟩ ⟨rfl, rfl, rfl, rfl, trivial⟩ ?_
    rintro s59 _ w65 r77 h78 hx79 ⟨a67, n68, c69, a72, n73, c74, K63, rfl, hS66, hl64, hs70, hr71, hs75, hr76⟩
    refine wc_seq ?_
    refine wc_seq ?_
    refine wc_region ?_
    refine wl_val wn rfl (rv_move rfl) ?_
    refine wl_val wn rfl (rv_lss rfl rfl) ?_
    refine wl_nil ?_
    refine qe_seq ?_
    refine wc_cond rfl (fun hb80 => ?_) (fun hb80 => ?_)
    · have h81 := cond_t hb80 h78
      refine wc_skip ?_
      refine qe_seq ?_
      refine wc_seq ?_
      refine wc_block ?_
      refine wc_seq ?_
      refine wc_region ?_
      refine wl_buildSlice0 tGHit wn rfl Try.underlying68 tf72 hS66 ?_
      intro a82 w83 K84 hl85 hs86 hS87
      refine wl_val wn rfl (rv_assign rfl) ?_
      refine wl_nil ?_
      refine qe_seq ?_
      refine wc_seq ?_
      refine wc_seq ?_
      refine wc_region ?_
      refine wl_val wn rfl (rv_assign (v := .int .i64 0) rfl) ?_
      refine wl_nil ?_
      refine qe_seq ?_
      obtain ⟨o88, h89, h90⟩ := Option.bind_eq_some_iff.1 h81
      refine wc_cutg (fun E' w' => ∃ (a95 : Option Addr) (n96 c97 : Nat) (a99 : Option Addr) (n100 c101 : Nat) (K91 : KMap), E' = [(4, .pointer (some ⟨g11, 0, none⟩)), (5, .slice a67 n68 c69), (6, .slice a32 n33 c34), (7, .int .i64 s59.2.1), (8, .slice a95 n96 c97)] ∧ SH w K [] w' K91 [obj g11 [.slice a99 n100 c101, .int .i64 o88.2.p_] 135, tail (.slice a67 n68 c69) 68 1, tail (.slice a95 n96 c97) 72 2] ∧ KLe K84 K91 ∧ SliceAt tGHit K91 a95 n96 c97 o88.1 ∧ SliceAt tU8 K91 a99 n100 c101 o88.2.b_ ∧ rng64 o88.2.p_) ?_ ?_
      · refine wc_block ?_
        obtain ⟨r105, h106, h107⟩ := Option.bind_eq_some_iff.1 h89
        have hS122 : SH _ _ _ _ _ [_, _, _] := SH.front (p := [_, _]) hS87
        have hS123 : SH _ _ _ _ _ [_, _, _] := SH.front (p := [_, _]) hS122
        refine wc_while' (fun (s104 : (List GHit) × Int × GL30Rd) E' w' => ∃ (a112 : Option Addr) (n113 c114 : Nat) (a117 : Option Addr) (n118 c119 : Nat) (K108 : KMap), E' = [(4, .pointer (some ⟨g11, 0, none⟩)), (5, .slice a67 n68 c69), (6, .slice a32 n33 c34), (7, .int .i64 s59.2.1), (8, .slice a112 n113 c114), (9, .int .i64 s104.2.1)] ∧ SH w K [] w' K108 [obj g11 [.slice a117 n118 c119, .int .i64 s104.2.2.p_] 135, tail (.slice a67 n68 c69) 68 1, tail (.slice a112 n113 c114) 72 2] ∧ KLe K84 K108 ∧ SliceAt tGHit K108 a112 n113 c114 s104.1 ∧ rng64 s104.2.1 ∧ SliceAt tU8 K108 a117 n118 c119 s104.2.2.b_ ∧ rng64 s104.2.2.p_) h106 ⟨a82, 0, 0, a72, n73, c74, K84, rfl, hS123, (KLe.refl _), hs86, (by decide : rng64 0), (SliceAt.mono hl85 hs75), hr76⟩ ⟨rfl, rfl, rfl, rfl, rfl, rfl, trivial⟩ ?_
        rintro s104 _ w110 r124 h125 hx126 ⟨a112, n113, c114, a117, n118, c119, K108, rfl, hS111, hl109, hs115, hr116, hs120, hr121⟩
        refine wc_seq ?_
        refine wc_seq ?_
        refine wc_region ?_
        refine wl_val wn rfl (rv_move rfl) ?_
        refine wl_val wn rfl (rv_move rfl) ?_
        refine wl_val wn rfl (rv_len (t := tGHit) Try.underlying68 rfl (SliceAt.mono ((hl64.trans hl85).trans hl109) hs35)) ?_
        refine wl_val wn rfl (rv_lss rfl rfl) ?_
        refine wl_nil ?_
        refine qe_seq ?_
        refine wc_cond rfl (fun hb127 => ?_) (fun hb127 => ?_)
        · have h128 := cond_t hb127 h125
          refine wc_skip ?_
          refine qe_seq ?_
          refine wc_seq ?_
          refine wc_block ?_
          refine wc_seq ?_
          obtain ⟨o129, h130, h131⟩ := Option.bind_eq_some_iff.1 h128
          refine wc_cutg (fun E' w' => ∃ (a136 : Option Addr) (n137 c138 : Nat) (K132 : KMap), E' = [(4, .pointer (some ⟨g11, 0, none⟩)), (5, .slice a67 n68 c69), (6, .slice a32 n33 c34), (7, .int .i64 s59.2.1), (8, .slice a112 n113 c114), (9, .int .i64 s104.2.1), (38, .bool o129.1)] ∧ SH w K [] w' K132 [obj g11 [.slice a136 n137 c138, .int .i64 o129.2.p_] 135, tail (.slice a67 n68 c69) 68 1, tail (.slice a112 n113 c114) 72 2] ∧ KLe K108 K132 ∧ SliceAt tU8 K132 a136 n137 c138 o129.2.b_ ∧ rng64 o129.2.p_) ?_ ?_
          · refine wc_region ?_
            refine wl_val wn rfl (rv_move rfl) ?_
            refine wl_val wn rfl (rv_move rfl) ?_
            obtain ⟨x141, hx142, h143⟩ := Option.bind_eq_some_iff.1 h130
            refine wl_indexAddr (t := tGHit) wn rfl Try.underlying68 tf72 rfl rfl (SliceAt.mono ((hl64.trans hl85).trans hl109) hs35) hx142 ?_
            intro b144 o145 u146 hu147 ha148
            obtain ⟨rfl, hr149, hr150⟩ := hu147
            have ha151 : AtK _ b144 o145 [.int .i64 x141.Doc, .int .i64 x141.Points] := ha148
            refine wl_val wn rfl (rv_fieldAddr ff72_0 rfl) ?_
            refine wl_val wn rfl (rv_load1 tf3 rfl hS111 (ha151 0 _ rfl)) ?_
            obtain ⟨x152, hx153, h154⟩ := Option.bind_eq_some_iff.1 h143
            refine wl_val wn rfl (rv_rem rfl rfl hx153) ?_
            refine wl_val wn rfl (rv_move rfl) ?_
            refine wl_val wn rfl (rv_eql rfl rfl) ?_
            refine wl_val wn rfl (rv_move rfl) ?_
            rcases bool_tf ((x152 == s59.2.1)) with hb155 | hb155
            · have h156 := cond_t hb155 h154
              refine wl_un (ug rfl rfl hb155) rfl ?_
              refine wl_un (ug rfl rfl hb155) rfl ?_
              refine wl_un (ug rfl rfl hb155) rfl ?_
              refine wl_val wn rfl (rv_pick_t (v := .bool true) rfl hb155 rfl) ?_
              refine wl_nil ?_
              obtain rfl := Option.some.inj h156
              exact qe_mid' ⟨a117, n118, c119, K108, rfl, hS111, (KLe.refl _), hs120, hr121⟩ ⟨rfl, rfl, rfl, rfl, rfl, rfl, rfl, trivial⟩
            · have h156 := cond_f hb155 h154
              refine wl_val (wg rfl rfl hb155) rfl (rv_move rfl) ?_
              obtain ⟨r157, hx158, h159⟩ := Option.bind_eq_some_iff.1 h156
              refine wl_call (wg rfl rfl hb155) rfl (rt_call (vs := [.pointer (some ⟨g11, 0, none⟩), .int .i64 30]) co56 rfl) ((ok_spec_l30Rd_pick F) (SH.enter (Lin := [_]) hS111) hs120 hr121 (by decide : rng64 30) hx158) ?_
              rintro e169 w161 ⟨a164, n165, c166, K160, rfl, hS162, hr163, hs167, hr168⟩
              refine ⟨_, rfl, ?_⟩
              have hS170 : SH _ _ _ _ _ [_, _, _] := SH.call (Lin := [_]) hS111 hS162
              refine wl_val (wg rfl rfl hb155) rfl (rv_eql rfl rfl) ?_
              refine wl_val wn rfl (rv_pick_f rfl hb155 rfl) ?_
              refine wl_nil ?_
              obtain rfl := Option.some.inj h159
              exact qe_mid' ⟨a164, n165, c166, K160, rfl, hS170, hS162.le, hs167, hr168⟩ ⟨rfl, rfl, rfl, rfl, rfl, rfl, rfl, trivial⟩
          · rintro _ w134 ⟨a136, n137, c138, K132, rfl, hS135, hl133, hs139, hr140⟩
            refine qe_seq ?_
            refine wc_cond rfl (fun hb171 => ?_) (fun hb171 => ?_)
            · have h172 := cond_t hb171 h131
              refine wc_region ?_
              refine wl_val wn rfl (rv_move rfl) ?_
              refine wl_val wn rfl (rv_move rfl) ?_
              refine wl_val wn rfl (rv_move rfl) ?_
              obtain ⟨x173, hx174, h175⟩ := Option.bind_eq_some_iff.1 h172
              refine wl_indexAddr (t := tGHit) wn rfl Try.underlying68 tf72 rfl rfl (SliceAt.mono (((hl64.trans hl85).trans hl109).trans hl133) hs35) hx174 ?_
              intro b176 o177 u178 hu179 ha180
              obtain ⟨rfl, hr181, hr182⟩ := hu179
              have ha183 : AtK _ b176 o177 [.int .i64 x173.Doc, .int .i64 x173.Points] := ha180
              refine wl_val wn rfl (rv_loadS (cs := [.int .i64 x173.Doc, .int .i64 x173.Points]) tf72 rfl hS135 ha183 rfl) ?_
              refine wl_buildSlice (t := tGHit) (n := 1) (pv := [(0, .agg #[.int .i64 x173.Doc, .int .i64 x173.Points])]) (cs := [.int .i64 x173.Doc, .int .i64 x173.Points]) (xs := [x173]) wn rfl Try.underlying68 tf72 rfl rfl rfl (by kernel_rfl) rfl rfl (lit_cons (u := .agg #[.int .i64 x173.Doc, .int .i64 x173.Points]) (z := x173) ⟨rfl, hr181, hr182⟩ lit_nil) hS135 ?_
              intro a184 w185 K186 hl187 hs188 hS189
              have hS190 : SH _ _ _ _ _ [_, _, _, _] := SH.front (p := [_, _, _]) hS189
              obtain ⟨x191, hx192, h193⟩ := Option.bind_eq_some_iff.1 h175
              refine wl_append (t := tGHit) wn rfl Try.underlying68 tf72 rfl rfl rfl rfl rfl (SliceAt.mono (hl133.trans hl187) hs115) hs188 hx192 hS190 ?_
              intro a194 n195 c196 w197 K198 hl199 hs200 hS201
              refine wl_val wn rfl (rv_assign rfl) ?_
              refine wl_nil ?_
              refine qe_block ?_
              refine qe_seq ?_
              refine wc_region ?_
              refine wl_val wn rfl (rv_move rfl) ?_
              refine wl_val wn rfl (rv_add rfl rfl) ?_
              refine wl_val wn rfl (rv_assign rfl) ?_
              refine wl_nil ?_
              obtain rfl := Option.some.inj h193
              have hS202 : SH _ _ _ _ _ [_, _, _, _] := SH.front (p := [_, _, _]) hS201
              have hS203 : SH _ _ _ _ _ [_, _, _, _] := SH.front (p := [_, _, _]) hS202
              have hS204 : SH _ _ _ _ _ [_, _, _] := SH.sublist hS203 (.cons_cons _ (.cons_cons _ (.cons_cons _ (.cons _ .slnil))))
              exact qe_mid' ⟨_, rfl, a194, n195, c196, a136, n137, c138, K198, rfl, hS204, (((hl109.trans hl133).trans hl187).trans hl199), hs200, (w64_rng _), (SliceAt.mono (hl187.trans hl199) hs139), hr140⟩ ⟨rfl, rfl, rfl, rfl, rfl, rfl, trivial⟩
            · have h172 := cond_f hb171 h131
              refine wc_skip ?_
              refine qe_block ?_
              refine qe_seq ?_
              refine wc_region ?_
              refine wl_val wn rfl (rv_move rfl) ?_
              refine wl_val wn rfl (rv_add rfl rfl) ?_
              refine wl_val wn rfl (rv_assign rfl) ?_
              refine wl_nil ?_
              obtain rfl := Option.some.inj h172
              exact qe_mid' ⟨_, rfl, a112, n113, c114, a136, n137, c138, K132, rfl, hS135, (hl109.trans hl133), (SliceAt.mono hl133 hs115), (w64_rng _), hs139, hr140⟩ ⟨rfl, rfl, rfl, rfl, rfl, rfl, trivial⟩
        · have h128 := cond_f hb127 h125
          refine wc_exit ?_
          refine qe_then_exit ?_
          refine qe_then_exit ?_
          obtain rfl := Option.some.inj h128
          have e205 := hx126 _ rfl
          subst e205
          refine qe_block_eq ?_
          obtain rfl := Option.some.inj h107
          exact qe_mid' ⟨a112, n113, c114, a117, n118, c119, K108, rfl, hS111, hl109, hs115, hs120, hr121⟩ ⟨rfl, rfl, rfl, rfl, rfl, trivial⟩
      · rintro _ w93 ⟨a95, n96, c97, a99, n100, c101, K91, rfl, hS94, hl92, hs98, hs102, hr103⟩
        refine qe_seq ?_
        refine wc_region ?_
        refine wl_val wn rfl (rv_move rfl) ?_
        refine wl_val wn rfl (rv_move rfl) ?_
        refine wl_buildSlice (t := (tSlice tGHit)) (n := 1) (pv := [(0, .slice a95 n96 c97)]) (cs := [.slice a95 n96 c97]) (xs := [o88.1]) wn rfl Try.underlying65 tf68 rfl rfl rfl (by kernel_rfl) rfl rfl (lit_cons (u := .slice a95 n96 c97) (z := o88.1) ⟨_, _, _, rfl, hs98⟩ lit_nil) hS94 ?_
        intro a206 w207 K208 hl209 hs210 hS211
        have hS212 : SH _ _ _ _ _ [_, _, _, _] := SH.front (p := [_, _]) hS211
        obtain ⟨x213, hx214, h215⟩ := Option.bind_eq_some_iff.1 h90
        refine wl_append (t := (tSlice tGHit)) wn rfl Try.underlying65 tf68 rfl rfl rfl rfl rfl (SliceAt.mono ((hl85.trans hl92).trans hl209) hs70) hs210 hx214 hS212 ?_
        intro a216 n217 c218 w219 K220 hl221 hs222 hS223
        refine wl_val wn rfl (rv_assign rfl) ?_
        refine wl_nil ?_
        refine qe_block ?_
        refine qe_seq ?_
        refine wc_region ?_
        refine wl_val wn rfl (rv_move rfl) ?_
        refine wl_val wn rfl (rv_add rfl rfl) ?_
        refine wl_val wn rfl (rv_assign rfl) ?_
        refine wl_nil ?_
        obtain rfl := Option.some.inj h215
        have hS224 : SH _ _ _ _ _ [_, _, _, _] := SH.front (p := [_, _]) hS223
        have hS225 : SH _ _ _ _ _ [_, _] := SH.sublist hS224 (.cons_cons _ (.cons_cons _ (.cons _ (.cons _ .slnil))))
        exact qe_mid' ⟨_, rfl, a216, n217, c218, a99, n100, c101, K220, rfl, hS225, ((((hl64.trans hl85).trans hl92).trans hl209).trans hl221), hs222, (w64_rng _), (SliceAt.mono (hl209.trans hl221) hs102), hr103⟩ ⟨rfl, rfl, rfl, rfl, trivial⟩
    · have h81 := cond_f hb80 h78
      refine wc_exit ?_
      refine qe_then_exit ?_
      refine qe_then_exit ?_
      obtain rfl := Option.some.inj h81
      have e226 := hx79 _ rfl
      subst e226
      refine qe_block_eq ?_
      obtain rfl := Option.some.inj h62
      exact qe_mid' ⟨a67, n68, c69, a72, n73, c74, K63, rfl, hS66, hl64, hs70, hs75, hr76⟩ ⟨rfl, rfl, trivial⟩
  · rintro _ w48 ⟨a50, n51, c52, a54, n55, c56, K46, rfl, hS49, hl47, hs53, hs57, hr58⟩
    refine qe_seq ?_
    refine wc_seq ?_
    refine wc_region ?_
    refine wl_val wn rfl (rv_move rfl) ?_
    refine wl_val wn rfl (rv_move rfl) ?_
    refine wl_buildSlice (t := tInt) (n := 4) (pv := [(0, .int .i64 1), (1, .int .i64 2), (2, .int .i64 16), (3, .int .i64 0)]) (cs := [.int .i64 1, .int .i64 2, .int .i64 16, .int .i64 0]) (xs := [(1 : Int), (2 : Int), (16 : Int), (0 : Int)]) wn rfl Try.underlying120 tf3 rfl rfl rfl (by kernel_rfl) rfl rfl (lit_cons (u := .int .i64 1) (z := (1 : Int)) ⟨rfl, (by decide : rng64 1)⟩ (lit_cons (u := .int .i64 2) (z := (2 : Int)) ⟨rfl, (by decide : rng64 2)⟩ (lit_cons (u := .int .i64 16) (z := (16 : Int)) ⟨rfl, (by decide : rng64 16)⟩ (lit_cons (u := .int .i64 0) (z := (0 : Int)) ⟨rfl, (by decide : rng64 0)⟩ lit_nil)))) hS49 ?_
    intro a227 w228 K229 hl230 hs231 hS232
    obtain ⟨r233, hx234, h235⟩ := Option.bind_eq_some_iff.1 h45
    have hS236 : SH _ _ _ _ _ [_, _, _] := SH.front (p := [_]) hS232
    refine wl_call wn rfl (rt_call (vs := [.pointer (some ⟨g11, 0, none⟩), .slice a227 4 4]) co85 rfl) ((ok_spec_l30Rd_one F) (SH.enter (Lin := [_]) hS236) (SliceAt.mono hl230 hs57) hr58 hs231 hx234) ?_
    rintro e246 w238 ⟨a241, n242, c243, K237, rfl, hS239, hr240, hs244, hr245⟩
    refine ⟨_, rfl, ?_⟩
    have hS247 : SH _ _ _ _ _ [_, _, _] := SH.call (Lin := [_]) hS236 hS239
    refine wl_val wn rfl (rv_assign rfl) ?_
    refine wl_val wn rfl (rv_assign rfl) ?_
    refine wl_nil ?_
    refine qe_seq ?_
    refine wc_ret ?_
    obtain rfl := Option.some.inj h235
    have hS248 : SH _ _ _ _ _ [_] := SH.sublist hS247 (.cons _ (.cons _ (.cons_cons _ .slnil)))
    exact qe_ret (vs := [_, _]) Try.results36 ⟨rfl, rfl, trivial⟩ ⟨a50, n51, c52, K237, rfl, hS248, (SliceAt.mono (hl230.trans hS239.le) hs53), hr240⟩

theorem ok_impl_within (F : Nat) {w : World} {K : KMap} {p0_n : Int} {p1_low : Int} {p2_high : Int} {r : Bool} (hS : SH w K [] w K []) (hr1 : rng64 p0_n) (hr2 : rng64 p1_low) (hr3 : rng64 p2_high) (hm : M.impl_within F p0_n p1_low p2_high = some r) :
    Calls Try.prog 72 #[.int .i64 p0_n, .int .i64 p1_low, .int .i64 p2_high] w fun e w' => ∃ (K' : KMap), e = .returned (.bool r) ∧ SH w K [] w' K' [] := by
  rw [M.impl_within] at hm
  refine calls_in Try.func72 rfl Try.ntmps72 rfl ?_
  refine wc_seq ?_
  refine wc_region ?_
  refine wl_val wn rfl (rv_assign (v := .bool false) rfl) ?_
  refine wl_nil ?_
  refine qe_seq ?_
  refine wc_seq ?_
  refine wc_region ?_
  refine wl_val wn rfl (rv_move rfl) ?_
  refine wl_val wn rfl (rv_move rfl) ?_
  refine wl_val wn rfl (rv_geq rfl rfl) ?_
  refine wl_val wn rfl (rv_move rfl) ?_
  rcases bool_tf (decide (p1_low ≤ p0_n)) with hb4 | hb4
  · have h5 := cond_t hb4 hm
    refine wl_val (wg rfl rfl hb4) rfl (rv_move rfl) ?_
    refine wl_val (wg rfl rfl hb4) rfl (rv_move rfl) ?_
    refine wl_val (wg rfl rfl hb4) rfl (rv_leq rfl rfl) ?_
    refine wl_val wn rfl (rv_pick_t rfl hb4 rfl) ?_
    refine wl_val wn rfl (rv_assign rfl) ?_
    refine wl_nil ?_
    refine qe_seq ?_
    refine wc_ret ?_
    obtain rfl := Option.some.inj h5
    exact qe_ret (vs := [_]) Try.results72 ⟨rfl, trivial⟩ ⟨K, rfl, hS⟩
  · have h5 := cond_f hb4 hm
    refine wl_un (ug rfl rfl hb4) rfl ?_
    refine wl_un (ug rfl rfl hb4) rfl ?_
    refine wl_un (ug rfl rfl hb4) rfl ?_
    refine wl_val wn rfl (rv_pick_f (v := .bool false) rfl hb4 rfl) ?_
    refine wl_val wn rfl (rv_assign rfl) ?_
    refine wl_nil ?_
    refine qe_seq ?_
    refine wc_ret ?_
    obtain rfl := Option.some.inj h5
    exact qe_ret (vs := [_]) Try.results72 ⟨rfl, trivial⟩ ⟨K, rfl, hS⟩
end Go.Proofs.Ytajfhpaokbgmeaa
