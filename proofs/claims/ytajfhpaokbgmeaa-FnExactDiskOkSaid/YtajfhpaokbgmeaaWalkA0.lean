/-
  Walks of the functions. Printed by gen.py.
-/
import Derived.Test.YtajfhpaokbgmeaaFacts
set_option linter.unusedVariables false
namespace Go.Proofs.Ytajfhpaokbgmeaa
open Go Go.Fk Go.RowKit

theorem ok_laws_szFile (F : Nat) {w : World} {K : KMap} {p0_a : GFile} {p1_left : Int} {r : Int} (hS : SH w K [] w K []) (hl1 : p0_a.Name.length ≤ maxLen) (hl2 : p0_a.Text.length ≤ maxLen) (hr3 : rng64 p1_left) (hm : M.laws_szFile F p0_a p1_left = some r) :
    Calls Try.prog 95 #[.agg #[sv p0_a.Name, sv p0_a.Text], .int .i64 p1_left] w fun e w' => ∃ (K' : KMap), e = .returned (.int .i64 r) ∧ SH w K [] w' K' [] ∧ rng64 r := by
  rw [M.laws_szFile] at hm
  refine calls_in Try.func95 rfl Try.ntmps95 rfl ?_
  refine wc_seq ?_
  refine wc_region ?_
  refine wl_box wn rfl rfl hS ?_
  intro g4 w5 hS6
  have hS7 : SH _ _ _ _ _ [obj g4 [sv p0_a.Name, sv p0_a.Text] 130] := hS6
  refine wl_val wn rfl (rv_assign (v := .int .i64 0) rfl) ?_
  refine wl_nil ?_
  refine qe_seq ?_
  refine wc_seq ?_
  refine wc_region ?_
  refine wl_val wn rfl (rv_move rfl) ?_
  refine wl_val wn rfl (rv_fieldAddr ff130_0 rfl) ?_
  refine wl_val wn rfl (rv_loadm1 tf9 rfl (.head _) hS7 rfl) ?_
  refine wl_val wn rfl (rv_slen Try.underlying9 rfl) ?_
  refine wl_val wn rfl (rv_sub rfl rfl) ?_
  refine wl_val wn rfl (rv_assign rfl) ?_
  refine wl_nil ?_
  refine qe_seq ?_
  refine wc_seq ?_
  refine wc_seq ?_
  refine wc_region ?_
  refine wl_val wn rfl (rv_move rfl) ?_
  refine wl_val wn rfl (rv_lss rfl rfl) ?_
  refine wl_nil ?_
  refine qe_seq ?_
  refine wc_cond rfl (fun hb8 => ?_) (fun hb8 => ?_)
  · have h9 := cond_t hb8 hm
    refine wc_seq ?_
    refine wc_region ?_
    refine wl_val wn rfl (rv_assign (v := .int .i64 (-1)) rfl) ?_
    refine wl_nil ?_
    refine qe_seq ?_
    refine wc_ret ?_
    refine qe_then_ret ?_
    obtain rfl := Option.some.inj h9
    have hS10 : SH _ _ _ _ _ [] := SH.sublist hS7 (.cons _ .slnil)
    exact qe_ret (vs := [_]) Try.results95 ⟨rfl, trivial⟩ ⟨K, rfl, hS10, (by decide : rng64 (-1))⟩
  · have h9 := cond_f hb8 hm
    refine wc_skip ?_
    refine qe_seq ?_
    refine wc_seq ?_
    refine wc_region ?_
    refine wl_val wn rfl (rv_move rfl) ?_
    refine wl_val wn rfl (rv_fieldAddr ff130_1 rfl) ?_
    refine wl_val wn rfl (rv_loadm1 tf9 rfl (.head _) hS7 rfl) ?_
    refine wl_val wn rfl (rv_slen Try.underlying9 rfl) ?_
    refine wl_val wn rfl (rv_sub rfl rfl) ?_
    obtain ⟨x11, hx12, h13⟩ := Option.bind_eq_some_iff.1 h9
    have e14 := Option.some.inj hx12
    refine wl_val wn rfl (rv_as rfl (congrArg (Value.int .i64) e14)) ?_
    refine wl_nil ?_
    refine qe_seq ?_
    refine wc_seq ?_
    refine wc_seq ?_
    refine wc_region ?_
    refine wl_val wn rfl (rv_move rfl) ?_
    refine wl_val wn rfl (rv_lss rfl rfl) ?_
    refine wl_nil ?_
    refine qe_seq ?_
    refine wc_cond rfl (fun hb15 => ?_) (fun hb15 => ?_)
    · have h16 := cond_t hb15 h13
      refine wc_seq ?_
      refine wc_region ?_
      refine wl_val wn rfl (rv_assign (v := .int .i64 (-1)) rfl) ?_
      refine wl_nil ?_
      refine qe_seq ?_
      refine wc_ret ?_
      refine qe_then_ret ?_
      obtain rfl := Option.some.inj h16
      have hS17 : SH _ _ _ _ _ [] := SH.sublist hS7 (.cons _ .slnil)
      exact qe_ret (vs := [_]) Try.results95 ⟨rfl, trivial⟩ ⟨K, rfl, hS17, (by decide : rng64 (-1))⟩
    · have h16 := cond_f hb15 h13
      refine wc_skip ?_
      refine qe_seq ?_
      refine wc_seq ?_
      refine wc_region ?_
      refine wl_val wn rfl (rv_move rfl) ?_
      refine wl_val wn rfl (rv_assign rfl) ?_
      refine wl_nil ?_
      refine qe_seq ?_
      refine wc_ret ?_
      obtain rfl := Option.some.inj h16
      have hS18 : SH _ _ _ _ _ [] := SH.sublist hS7 (.cons _ .slnil)
      exact qe_ret (vs := [_]) Try.results95 ⟨rfl, trivial⟩ ⟨K, rfl, hS18, (cast_rng e14 (w64_rng _))⟩

theorem ok_laws_szFileS (F : Nat) {w : World} {K : KMap} {a1 : Option Addr} {n2 c3 : Nat} {p0_a : List GFile} {p1_left : Int} {r : Int} (hS : SH w K [] w K []) (hs4 : SliceAt tGFile K a1 n2 c3 p0_a) (hr5 : rng64 p1_left) (hm : M.laws_szFileS F p0_a p1_left = some r) :
    Calls Try.prog 49 #[.slice a1 n2 c3, .int .i64 p1_left] w fun e w' => ∃ (K' : KMap), e = .returned (.int .i64 r) ∧ SH w K [] w' K' [] ∧ rng64 r := by
  rw [M.laws_szFileS] at hm
  refine calls_in Try.func49 rfl Try.ntmps49 rfl ?_
  refine wc_seq ?_
  refine wc_region ?_
  refine wl_val wn rfl (rv_assign (v := .int .i64 0) rfl) ?_
  refine wl_nil ?_
  refine qe_seq ?_
  refine wc_seq ?_
  refine wc_region ?_
  refine wl_val wn rfl (rv_move rfl) ?_
  refine wl_val wn rfl (rv_move rfl) ?_
  refine wl_val wn rfl (rv_len (t := tGFile) Try.underlying22 rfl hs4) ?_
  refine wl_val wn rfl (rv_sub rfl rfl) ?_
  refine wl_val wn rfl (rv_assign rfl) ?_
  refine wl_nil ?_
  refine qe_seq ?_
  refine wc_seq ?_
  refine wc_seq ?_
  refine wc_region ?_
  refine wl_val wn rfl (rv_move rfl) ?_
  refine wl_val wn rfl (rv_lss rfl rfl) ?_
  refine wl_nil ?_
  refine qe_seq ?_
  refine wc_cond rfl (fun hb6 => ?_) (fun hb6 => ?_)
  · have h7 := cond_t hb6 hm
    refine wc_seq ?_
    refine wc_region ?_
    refine wl_val wn rfl (rv_assign (v := .int .i64 (-1)) rfl) ?_
    refine wl_nil ?_
    refine qe_seq ?_
    refine wc_ret ?_
    refine qe_then_ret ?_
    obtain rfl := Option.some.inj h7
    exact qe_ret (vs := [_]) Try.results49 ⟨rfl, trivial⟩ ⟨K, rfl, hS, (by decide : rng64 (-1))⟩
  · have h7 := cond_f hb6 hm
    refine wc_skip ?_
    refine qe_seq ?_
    refine wc_seq ?_
    refine wc_seq ?_
    refine wc_region ?_
    refine wl_val wn rfl (rv_assign (v := .int .i64 0) rfl) ?_
    refine wl_nil ?_
    refine qe_seq ?_
    obtain ⟨o8, h9, h10⟩ := Option.bind_eq_some_iff.1 h7
    refine wc_cutg (fun E' w' => ∃ (s11 : Int) (K12 : KMap), o8 = .inl s11 ∧ E' = [(1, .int .i64 s11)] ∧ SH w K [] w' K12 [] ∧ KLe K K12 ∧ rng64 s11) ?_ ?_
    · refine wc_block ?_
      obtain ⟨r18, h19, h20⟩ := Option.bind_eq_some_iff.1 h9
      refine wc_while' (fun (s17 : Int × Int) E' w' => ∃ (K21 : KMap), E' = [(0, .slice a1 n2 c3), (1, .int .i64 s17.1), (5, .int .i64 s17.2)] ∧ SH w K [] w' K21 [] ∧ KLe K K21 ∧ rng64 s17.1 ∧ rng64 s17.2) h19 ⟨K, rfl, hS, (KLe.refl _), (w64_rng _), (by decide : rng64 0)⟩ ⟨rfl, rfl, rfl, trivial⟩ ?_
      rintro s17 _ w23 r27 h28 hx29 ⟨K21, rfl, hS24, hl22, hr25, hr26⟩
      refine wc_seq ?_
      refine wc_seq ?_
      refine wc_region ?_
      refine wl_val wn rfl (rv_move rfl) ?_
      refine wl_val wn rfl (rv_move rfl) ?_
      refine wl_val wn rfl (rv_len (t := tGFile) Try.underlying22 rfl (SliceAt.mono hl22 hs4)) ?_
      refine wl_val wn rfl (rv_lss rfl rfl) ?_
      refine wl_nil ?_
      refine qe_seq ?_
      refine wc_cond rfl (fun hb30 => ?_) (fun hb30 => ?_)
      · have h31 := cond_t hb30 h28
        refine wc_skip ?_
        refine qe_seq ?_
        refine wc_seq ?_
        refine wc_block ?_
        refine wc_seq ?_
        refine wc_region ?_
        refine wl_val wn rfl (rv_move rfl) ?_
        refine wl_val wn rfl (rv_move rfl) ?_
        obtain ⟨x32, hx33, h34⟩ := Option.bind_eq_some_iff.1 h31
        refine wl_indexAddr (t := tGFile) wn rfl Try.underlying22 tf130 rfl rfl (SliceAt.mono hl22 hs4) hx33 ?_
        intro b35 o36 u37 hu38 ha39
        obtain ⟨rfl, hl40, hl41⟩ := hu38
        have ha42 : AtK _ b35 o36 [sv x32.Name, sv x32.Text] := ha39
        refine wl_val wn rfl (rv_loadS (cs := [sv x32.Name, sv x32.Text]) tf130 rfl hS24 ha42 rfl) ?_
        refine wl_val wn rfl (rv_move rfl) ?_
        obtain ⟨r43, hx44, h45⟩ := Option.bind_eq_some_iff.1 h34
        refine wl_call wn rfl (rt_call (vs := [.agg #[sv x32.Name, sv x32.Text], .int .i64 s17.1]) co95 rfl) ((ok_laws_szFile F) hS24.enter0 hl40 hl41 hr25 hx44) ?_
        rintro e50 w47 ⟨K46, rfl, hS48, hr49⟩
        refine ⟨_, rfl, ?_⟩
        have hS51 : SH _ _ _ _ _ [] := SH.call0 hS24 hS48
        refine wl_val wn rfl (rv_assign rfl) ?_
        refine wl_nil ?_
        refine qe_seq ?_
        refine wc_seq ?_
        refine wc_region ?_
        refine wl_val wn rfl (rv_move rfl) ?_
        refine wl_val wn rfl (rv_lss rfl rfl) ?_
        refine wl_nil ?_
        refine qe_seq ?_
        refine wc_cond rfl (fun hb52 => ?_) (fun hb52 => ?_)
        · have h53 := cond_t hb52 h45
          refine wc_seq ?_
          refine wc_region ?_
          refine wl_val wn rfl (rv_assign (v := .int .i64 (-1)) rfl) ?_
          refine wl_nil ?_
          refine qe_seq ?_
          refine wc_ret ?_
          refine qe_block_ret ?_
          refine qe_then_ret ?_
          refine qe_then_ret ?_
          obtain rfl := Option.some.inj h53
          have e54 := hx29 _ rfl
          subst e54
          refine qe_block_ret ?_
          refine qe_then_ret ?_
          obtain rfl := Option.some.inj h20
          refine qe_then_ret ?_
          obtain rfl := Option.some.inj h10
          exact qe_ret (vs := [_]) Try.results49 ⟨rfl, trivial⟩ ⟨K46, rfl, hS51, (by decide : rng64 (-1))⟩
        · have h53 := cond_f hb52 h45
          refine wc_skip ?_
          refine qe_block ?_
          refine qe_seq ?_
          refine wc_region ?_
          refine wl_val wn rfl (rv_move rfl) ?_
          refine wl_val wn rfl (rv_add rfl rfl) ?_
          refine wl_val wn rfl (rv_assign rfl) ?_
          refine wl_nil ?_
          obtain rfl := Option.some.inj h53
          exact qe_mid' ⟨_, rfl, K46, rfl, hS51, (hl22.trans hS48.le), hr49, (w64_rng _)⟩ ⟨rfl, rfl, rfl, trivial⟩
      · have h31 := cond_f hb30 h28
        refine wc_exit ?_
        refine qe_then_exit ?_
        refine qe_then_exit ?_
        obtain rfl := Option.some.inj h31
        have e55 := hx29 _ rfl
        subst e55
        refine qe_block_eq ?_
        obtain rfl := Option.some.inj h20
        exact qe_mid' ⟨_, K21, rfl, rfl, hS24, hl22, hr25⟩ ⟨rfl, trivial⟩
    · rintro _ w14 ⟨s11, K12, rfl, rfl, hS15, hl13, hr16⟩
      refine qe_seq ?_
      refine wc_seq ?_
      refine wc_region ?_
      refine wl_val wn rfl (rv_move rfl) ?_
      refine wl_val wn rfl (rv_assign rfl) ?_
      refine wl_nil ?_
      refine qe_seq ?_
      refine wc_ret ?_
      obtain rfl := Option.some.inj h10
      exact qe_ret (vs := [_]) Try.results49 ⟨rfl, trivial⟩ ⟨K12, rfl, hS15, hr16⟩

theorem ok_laws_szDisk (F : Nat) {w : World} {K : KMap} {a1 : Option Addr} {n2 c3 : Nat} {p0_a : GDisk} {p1_left : Int} {r : Int} (hS : SH w K [] w K []) (hs4 : SliceAt tGFile K a1 n2 c3 p0_a.Files) (hr5 : rng64 p1_left) (hm : M.laws_szDisk F p0_a p1_left = some r) :
    Calls Try.prog 9 #[.agg #[.slice a1 n2 c3], .int .i64 p1_left] w fun e w' => ∃ (K' : KMap), e = .returned (.int .i64 r) ∧ SH w K [] w' K' [] ∧ rng64 r := by
  rw [M.laws_szDisk] at hm
  refine calls_in Try.func9 rfl Try.ntmps9 rfl ?_
  refine wc_seq ?_
  refine wc_region ?_
  refine wl_box wn rfl rfl hS ?_
  intro g6 w7 hS8
  have hS9 : SH _ _ _ _ _ [obj g6 [.slice a1 n2 c3] 24] := hS8
  refine wl_val wn rfl (rv_assign (v := .int .i64 0) rfl) ?_
  refine wl_nil ?_
  refine qe_seq ?_
  refine wc_seq ?_
  refine wc_region ?_
  refine wl_val wn rfl (rv_fieldAddr ff24_0 rfl) ?_
  refine wl_val wn rfl (rv_loadm1 tf22 rfl (.head _) hS9 rfl) ?_
  refine wl_val wn rfl (rv_move rfl) ?_
  obtain ⟨r10, hx11, h12⟩ := Option.bind_eq_some_iff.1 hm
  refine wl_call wn rfl (rt_call (vs := [.slice a1 n2 c3, .int .i64 p1_left]) co49 rfl) ((ok_laws_szFileS F) hS9.enter0 hs4 hr5 hx11) ?_
  rintro e17 w14 ⟨K13, rfl, hS15, hr16⟩
  refine ⟨_, rfl, ?_⟩
  have hS18 : SH _ _ _ _ _ [_] := SH.call0 hS9 hS15
  refine wl_val wn rfl (rv_assign rfl) ?_
  refine wl_nil ?_
  refine qe_seq ?_
  refine wc_seq ?_
  refine wc_seq ?_
  refine wc_region ?_
  refine wl_val wn rfl (rv_move rfl) ?_
  refine wl_val wn rfl (rv_lss rfl rfl) ?_
  refine wl_nil ?_
  refine qe_seq ?_
  refine wc_cond rfl (fun hb19 => ?_) (fun hb19 => ?_)
  · have h20 := cond_t hb19 h12
    refine wc_seq ?_
    refine wc_region ?_
    refine wl_val wn rfl (rv_assign (v := .int .i64 (-1)) rfl) ?_
    refine wl_nil ?_
    refine qe_seq ?_
    refine wc_ret ?_
    refine qe_then_ret ?_
    obtain rfl := Option.some.inj h20
    have hS21 : SH _ _ _ _ _ [] := SH.sublist hS18 (.cons _ .slnil)
    exact qe_ret (vs := [_]) Try.results9 ⟨rfl, trivial⟩ ⟨K13, rfl, hS21, (by decide : rng64 (-1))⟩
  · have h20 := cond_f hb19 h12
    refine wc_skip ?_
    refine qe_seq ?_
    refine wc_seq ?_
    refine wc_region ?_
    refine wl_val wn rfl (rv_move rfl) ?_
    refine wl_val wn rfl (rv_assign rfl) ?_
    refine wl_nil ?_
    refine qe_seq ?_
    refine wc_ret ?_
    obtain rfl := Option.some.inj h20
    have hS22 : SH _ _ _ _ _ [] := SH.sublist hS18 (.cons _ .slnil)
    exact qe_ret (vs := [_]) Try.results9 ⟨rfl, trivial⟩ ⟨K13, rfl, hS22, hr16⟩

theorem ok_spec_l1In (F : Nat) {w : World} {K : KMap} {p0_n : Int} {p1_low : Int} {p2_high : Int} {r : Bool} (hS : SH w K [] w K []) (hr1 : rng64 p0_n) (hr2 : rng64 p1_low) (hr3 : rng64 p2_high) (hm : M.spec_l1In F p0_n p1_low p2_high = some r) :
    Calls Try.prog 60 #[.int .i64 p0_n, .int .i64 p1_low, .int .i64 p2_high] w fun e w' => ∃ (K' : KMap), e = .returned (.bool r) ∧ SH w K [] w' K' [] := by
  rw [M.spec_l1In] at hm
  refine calls_in Try.func60 rfl Try.ntmps60 rfl ?_
  refine wc_seq ?_
  refine wc_region ?_
  refine wl_val wn rfl (rv_assign (v := .bool false) rfl) ?_
  refine wl_nil ?_
  refine qe_seq ?_
  refine wc_seq ?_
  refine wc_region ?_
  refine wl_val wn rfl (rv_move rfl) ?_
  refine wl_val wn rfl (rv_move rfl) ?_
  refine wl_val wn rfl (rv_geq rfl rfl) ?_
  refine wl_val wn rfl (rv_move rfl) ?_
  rcases bool_tf (decide (p1_low ≤ p0_n)) with hb4 | hb4
  · have h5 := cond_t hb4 hm
    refine wl_val (wg rfl rfl hb4) rfl (rv_move rfl) ?_
    refine wl_val (wg rfl rfl hb4) rfl (rv_move rfl) ?_
    refine wl_val (wg rfl rfl hb4) rfl (rv_leq rfl rfl) ?_
    refine wl_val wn rfl (rv_pick_t rfl hb4 rfl) ?_
    refine wl_val wn rfl (rv_assign rfl) ?_
    refine wl_nil ?_
    refine qe_seq ?_
    refine wc_ret ?_
    obtain rfl := Option.some.inj h5
    exact qe_ret (vs := [_]) Try.results60 ⟨rfl, trivial⟩ ⟨K, rfl, hS⟩
  · have h5 := cond_f hb4 hm
    refine wl_un (ug rfl rfl hb4) rfl ?_
    refine wl_un (ug rfl rfl hb4) rfl ?_
    refine wl_un (ug rfl rfl hb4) rfl ?_
    refine wl_val wn rfl (rv_pick_f (v := .bool false) rfl hb4 rfl) ?_
    refine wl_val wn rfl (rv_assign rfl) ?_
    refine wl_nil ?_
    refine qe_seq ?_
    refine wc_ret ?_
    obtain rfl := Option.some.inj h5
    exact qe_ret (vs := [_]) Try.results60 ⟨rfl, trivial⟩ ⟨K, rfl, hS⟩

theorem ok_spec_l1Fold (F : Nat) {w : World} {K : KMap} {p0_b : UInt8} {r : UInt8} (hS : SH w K [] w K []) (hm : M.spec_l1Fold F p0_b = some r) :
    Calls Try.prog 125 #[iv8 p0_b] w fun e w' => ∃ (K' : KMap), e = .returned (iv8 r) ∧ SH w K [] w' K' [] := by
  rw [M.spec_l1Fold] at hm
  refine calls_in Try.func125 rfl Try.ntmps125 rfl ?_
  refine wc_seq ?_
  refine wc_region ?_
  refine wl_val wn rfl (rv_assign (v := iv8 0) rfl) ?_
  refine wl_nil ?_
  refine qe_seq ?_
  refine wc_seq ?_
  refine wc_block ?_
  refine wc_seq ?_
  obtain ⟨o1, h2, h3⟩ := Option.bind_eq_some_iff.1 hm
  refine wc_cutg (fun E' w' => ∃ (K4 : KMap), E' = [(0, iv8 p0_b), (3, .bool o1)] ∧ SH w K [] w' K4 [] ∧ KLe K K4) ?_ ?_
  · refine wc_region ?_
    refine wl_val wn rfl (rv_move rfl) ?_
    refine wl_val wn rfl (rv_bge (b := (65 : UInt8)) rfl rfl) ?_
    refine wl_val wn rfl (rv_move rfl) ?_
    rcases bool_tf (decide ((65 : UInt8) ≤ p0_b)) with hb8 | hb8
    · have h9 := cond_t hb8 h2
      refine wl_val (wg rfl rfl hb8) rfl (rv_move rfl) ?_
      refine wl_val (wg rfl rfl hb8) rfl (rv_ble (b := (90 : UInt8)) rfl rfl) ?_
      refine wl_val wn rfl (rv_pick_t rfl hb8 rfl) ?_
      refine wl_val wn rfl (rv_assign rfl) ?_
      refine wl_nil ?_
      obtain rfl := Option.some.inj h9
      exact qe_mid' ⟨K, rfl, hS, (KLe.refl _)⟩ ⟨rfl, rfl, trivial⟩
    · have h9 := cond_f hb8 h2
      refine wl_un (ug rfl rfl hb8) rfl ?_
      refine wl_un (ug rfl rfl hb8) rfl ?_
      refine wl_val wn rfl (rv_pick_f (v := .bool false) rfl hb8 rfl) ?_
      refine wl_val wn rfl (rv_assign rfl) ?_
      refine wl_nil ?_
      obtain rfl := Option.some.inj h9
      exact qe_mid' ⟨K, rfl, hS, (KLe.refl _)⟩ ⟨rfl, rfl, trivial⟩
  · rintro _ w6 ⟨K4, rfl, hS7, hl5⟩
    refine qe_seq ?_
    refine wc_cond rfl (fun hb10 => ?_) (fun hb10 => ?_)
    · have h11 := cond_t hb10 h3
      refine wc_seq ?_
      refine wc_region ?_
      refine wl_val wn rfl (rv_move rfl) ?_
      refine wl_val wn rfl (rv_badd (b := (32 : UInt8)) rfl rfl) ?_
      refine wl_val wn rfl (rv_assign rfl) ?_
      refine wl_nil ?_
      refine qe_seq ?_
      refine wc_ret ?_
      refine qe_block_ret ?_
      refine qe_then_ret ?_
      obtain rfl := Option.some.inj h11
      exact qe_ret (vs := [_]) Try.results125 ⟨rfl, trivial⟩ ⟨K4, rfl, hS7⟩
    · have h11 := cond_f hb10 h3
      refine wc_seq ?_
      obtain ⟨o12, h13, h14⟩ := Option.bind_eq_some_iff.1 h11
      refine wc_cutg (fun E' w' => ∃ (K15 : KMap), E' = [(0, iv8 p0_b), (12, .bool o12)] ∧ SH w K [] w' K15 [] ∧ KLe K4 K15) ?_ ?_
      · refine wc_region ?_
        refine wl_val wn rfl (rv_move rfl) ?_
        refine wl_val wn rfl (rv_bge (b := (97 : UInt8)) rfl rfl) ?_
        refine wl_val wn rfl (rv_move rfl) ?_
        rcases bool_tf (decide ((97 : UInt8) ≤ p0_b)) with hb19 | hb19
        · have h20 := cond_t hb19 h13
          refine wl_val (wg rfl rfl hb19) rfl (rv_move rfl) ?_
          refine wl_val (wg rfl rfl hb19) rfl (rv_ble (b := (122 : UInt8)) rfl rfl) ?_
          refine wl_val wn rfl (rv_pick_t rfl hb19 rfl) ?_
          refine wl_val wn rfl (rv_move rfl) ?_
          rcases bool_tf (decide (p0_b ≤ (122 : UInt8))) with hb21 | hb21
          · have h22 := cond_t hb21 h20
            refine wl_un (ug rfl rfl hb21) rfl ?_
            refine wl_un (ug rfl rfl hb21) rfl ?_
            refine wl_un (ug rfl rfl hb21) rfl ?_
            refine wl_un (uu rfl rfl) rfl ?_
            refine wl_un (uu rfl rfl) rfl ?_
            refine wl_un (ug rfl rfl hb21) rfl ?_
            refine wl_val wn rfl (rv_pick_t (v := .bool true) rfl hb21 rfl) ?_
            refine wl_val wn rfl (rv_assign rfl) ?_
            refine wl_nil ?_
            obtain rfl := Option.some.inj h22
            exact qe_mid' ⟨K4, rfl, hS7, (KLe.refl _)⟩ ⟨rfl, rfl, trivial⟩
          · have h22 := cond_f hb21 h20
            refine wl_val (wg rfl rfl hb21) rfl (rv_move rfl) ?_
            refine wl_val (wg rfl rfl hb21) rfl (rv_bge (b := (48 : UInt8)) rfl rfl) ?_
            refine wl_val (wg rfl rfl hb21) rfl (rv_move rfl) ?_
            rcases bool_tf (decide ((48 : UInt8) ≤ p0_b)) with hb23 | hb23
            · have h24 := cond_t hb23 h22
              refine wl_val (wg rfl rfl hb23) rfl (rv_move rfl) ?_
              refine wl_val (wg rfl rfl hb23) rfl (rv_ble (b := (57 : UInt8)) rfl rfl) ?_
              refine wl_val (wg rfl rfl hb21) rfl (rv_pick_t rfl hb23 rfl) ?_
              refine wl_val wn rfl (rv_pick_f rfl hb21 rfl) ?_
              refine wl_val wn rfl (rv_assign rfl) ?_
              refine wl_nil ?_
              obtain rfl := Option.some.inj h24
              exact qe_mid' ⟨K4, rfl, hS7, (KLe.refl _)⟩ ⟨rfl, rfl, trivial⟩
            · have h24 := cond_f hb23 h22
              refine wl_un (ug rfl rfl hb23) rfl ?_
              refine wl_un (ug rfl rfl hb23) rfl ?_
              refine wl_val (wg rfl rfl hb21) rfl (rv_pick_f (v := .bool false) rfl hb23 rfl) ?_
              refine wl_val wn rfl (rv_pick_f rfl hb21 rfl) ?_
              refine wl_val wn rfl (rv_assign rfl) ?_
              refine wl_nil ?_
              obtain rfl := Option.some.inj h24
              exact qe_mid' ⟨K4, rfl, hS7, (KLe.refl _)⟩ ⟨rfl, rfl, trivial⟩
        · have h20 := cond_f hb19 h13
          refine wl_un (ug rfl rfl hb19) rfl ?_
          refine wl_un (ug rfl rfl hb19) rfl ?_
          refine wl_val wn rfl (rv_pick_f (v := .bool false) rfl hb19 rfl) ?_
          refine wl_val wn rfl (rv_move rfl) ?_
          refine wl_val (wg rfl rfl rfl) rfl (rv_move rfl) ?_
          refine wl_val (wg rfl rfl rfl) rfl (rv_bge (b := (48 : UInt8)) rfl rfl) ?_
          refine wl_val (wg rfl rfl rfl) rfl (rv_move rfl) ?_
          rcases bool_tf (decide ((48 : UInt8) ≤ p0_b)) with hb25 | hb25
          · have h26 := cond_t hb25 h20
            refine wl_val (wg rfl rfl hb25) rfl (rv_move rfl) ?_
            refine wl_val (wg rfl rfl hb25) rfl (rv_ble (b := (57 : UInt8)) rfl rfl) ?_
            refine wl_val (wg rfl rfl rfl) rfl (rv_pick_t rfl hb25 rfl) ?_
            refine wl_val wn rfl (rv_pick_f rfl rfl rfl) ?_
            refine wl_val wn rfl (rv_assign rfl) ?_
            refine wl_nil ?_
            obtain rfl := Option.some.inj h26
            exact qe_mid' ⟨K4, rfl, hS7, (KLe.refl _)⟩ ⟨rfl, rfl, trivial⟩
          · have h26 := cond_f hb25 h20
            refine wl_un (ug rfl rfl hb25) rfl ?_
            refine wl_un (ug rfl rfl hb25) rfl ?_
            refine wl_val (wg rfl rfl rfl) rfl (rv_pick_f (v := .bool false) rfl hb25 rfl) ?_
            refine wl_val wn rfl (rv_pick_f rfl rfl rfl) ?_
            refine wl_val wn rfl (rv_assign rfl) ?_
            refine wl_nil ?_
            obtain rfl := Option.some.inj h26
            exact qe_mid' ⟨K4, rfl, hS7, (KLe.refl _)⟩ ⟨rfl, rfl, trivial⟩
      · rintro _ w17 ⟨K15, rfl, hS18, hl16⟩
        refine qe_seq ?_
        refine wc_cond rfl (fun hb27 => ?_) (fun hb27 => ?_)
        · have h28 := cond_t hb27 h14
          refine wc_seq ?_
          refine wc_region ?_
          refine wl_val wn rfl (rv_move rfl) ?_
          refine wl_val wn rfl (rv_assign rfl) ?_
          refine wl_nil ?_
          refine qe_seq ?_
          refine wc_ret ?_
          refine qe_block_ret ?_
          refine qe_then_ret ?_
          obtain rfl := Option.some.inj h28
          exact qe_ret (vs := [_]) Try.results125 ⟨rfl, trivial⟩ ⟨K15, rfl, hS18⟩
        · have h28 := cond_f hb27 h14
          refine wc_skip ?_
          refine qe_block ?_
          refine qe_seq ?_
          refine wc_seq ?_
          refine wc_region ?_
          refine wl_val wn rfl (rv_assign (v := iv8 0) rfl) ?_
          refine wl_nil ?_
          refine qe_seq ?_
          refine wc_ret ?_
          obtain rfl := Option.some.inj h28
          exact qe_ret (vs := [_]) Try.results125 ⟨rfl, trivial⟩ ⟨K15, rfl, hS18⟩

theorem ok_spec_l1WordOk (F : Nat) {w : World} {K : KMap} {p0_s : Str} {r : Bool} (hS : SH w K [] w K []) (hl1 : p0_s.length ≤ maxLen) (hm : M.spec_l1WordOk F p0_s = some r) :
    Calls Try.prog 96 #[sv p0_s] w fun e w' => ∃ (K' : KMap), e = .returned (.bool r) ∧ SH w K [] w' K' [] := by
  rw [M.spec_l1WordOk] at hm
  refine calls_in Try.func96 rfl Try.ntmps96 rfl ?_
  refine wc_seq ?_
  refine wc_region ?_
  refine wl_val wn rfl (rv_assign (v := .bool false) rfl) ?_
  refine wl_nil ?_
  refine qe_seq ?_
  refine wc_seq ?_
  refine wc_seq ?_
  refine wc_region ?_
  refine wl_val wn rfl (rv_assign (v := .int .i64 0) rfl) ?_
  refine wl_nil ?_
  refine qe_seq ?_
  obtain ⟨o2, h3, h4⟩ := Option.bind_eq_some_iff.1 hm
  refine wc_cutg (fun E' w' => ∃ (s5 : Unit) (K6 : KMap), o2 = .inl s5 ∧ E' = [(0, sv p0_s)] ∧ SH w K [] w' K6 [] ∧ KLe K K6) ?_ ?_
  · refine wc_block ?_
    obtain ⟨r11, h12, h13⟩ := Option.bind_eq_some_iff.1 h3
    refine wc_while' (fun (s10 : Int) E' w' => ∃ (K14 : KMap), E' = [(0, sv p0_s), (3, .int .i64 s10)] ∧ SH w K [] w' K14 [] ∧ KLe K K14 ∧ rng64 s10) h12 ⟨K, rfl, hS, (KLe.refl _), (by decide : rng64 0)⟩ ⟨rfl, rfl, trivial⟩ ?_
    rintro s10 _ w16 r19 h20 hx21 ⟨K14, rfl, hS17, hl15, hr18⟩
    refine wc_seq ?_
    refine wc_seq ?_
    refine wc_region ?_
    refine wl_val wn rfl (rv_move rfl) ?_
    refine wl_val wn rfl (rv_move rfl) ?_
    refine wl_val wn rfl (rv_slen Try.underlying9 rfl) ?_
    refine wl_val wn rfl (rv_lss rfl rfl) ?_
    refine wl_nil ?_
    refine qe_seq ?_
    refine wc_cond rfl (fun hb22 => ?_) (fun hb22 => ?_)
    · have h23 := cond_t hb22 h20
      refine wc_skip ?_
      refine qe_seq ?_
      refine wc_seq ?_
      refine wc_block ?_
      refine wc_seq ?_
      obtain ⟨o24, h25, h26⟩ := Option.bind_eq_some_iff.1 h23
      refine wc_cutg (fun E' w' => ∃ (K27 : KMap), E' = [(0, sv p0_s), (3, .int .i64 s10), (23, .bool o24)] ∧ SH w K [] w' K27 [] ∧ KLe K14 K27) ?_ ?_
      · refine wc_quiet mixed (by kernel_rfl) hS17 ?_
        refine wq_val wn rfl (fun _ _ => (rv_move rfl)) ?_
        refine wq_val wn rfl (fun _ _ => (rv_move rfl)) ?_
        obtain ⟨x31, hx32, h33⟩ := Option.bind_eq_some_iff.1 h25
        refine wq_val wn rfl (fun _ _ => (rv_sidx Try.underlying9 rfl rfl hx32)) ?_
        obtain ⟨r34, hx35, h36⟩ := Option.bind_eq_some_iff.1 h33
        refine wq_call (v := iv8 r34) wn rfl (fun _ => rt_call (vs := [iv8 x31]) co125 rfl) (fun w39 ⟨K37, hS38, hl40⟩ => ((ok_spec_l1Fold F) hS38.enter0  hx35).mono fun e w' ⟨K', he, hS'⟩ => ⟨he, K', hS38.call0 hS', hl40.trans hS'.le⟩) ?_
        refine wq_val wn rfl (fun _ _ => (rv_move rfl)) ?_
        refine wq_val wn rfl (fun _ _ => (rv_move rfl)) ?_
        obtain ⟨x41, hx42, h43⟩ := Option.bind_eq_some_iff.1 h36
        refine wq_val wn rfl (fun _ _ => (rv_sidx Try.underlying9 rfl rfl hx42)) ?_
        refine wq_val wn rfl (fun _ _ => (rv_bne rfl rfl)) ?_
        refine wq_val wn rfl (fun _ _ => (rv_move rfl)) ?_
        rcases bool_tf ((!(r34 == x41))) with hb44 | hb44
        · have h45 := cond_t hb44 h43
          refine wq_un (ug rfl rfl hb44) rfl ?_
          refine wq_un (ug rfl rfl hb44) rfl ?_
          refine wq_un (ug rfl rfl hb44) rfl ?_
          refine wq_un (ug rfl rfl hb44) rfl ?_
          refine wq_val wn rfl (fun _ _ => (rv_pick_t (v := .bool true) rfl hb44 rfl)) ?_
          refine wq_nil ?_
          rintro w47 ⟨K46, hS48, hl49⟩
          obtain rfl := Option.some.inj h45
          exact qe_mid' ⟨K46, rfl, hS48, hl49⟩ ⟨rfl, rfl, rfl, trivial⟩
        · have h45 := cond_f hb44 h43
          refine wq_val (wg rfl rfl hb44) rfl (fun _ _ => (rv_move rfl)) ?_
          refine wq_val (wg rfl rfl hb44) rfl (fun _ _ => (rv_move rfl)) ?_
          obtain ⟨x50, hx51, h52⟩ := Option.bind_eq_some_iff.1 h45
          refine wq_val (wg rfl rfl hb44) rfl (fun _ _ => (rv_sidx Try.underlying9 rfl rfl hx51)) ?_
          refine wq_val (wg rfl rfl hb44) rfl (fun _ _ => (rv_beq (b := (0 : UInt8)) rfl rfl)) ?_
          refine wq_val wn rfl (fun _ _ => (rv_pick_f rfl hb44 rfl)) ?_
          refine wq_nil ?_
          rintro w54 ⟨K53, hS55, hl56⟩
          obtain rfl := Option.some.inj h52
          exact qe_mid' ⟨K53, rfl, hS55, hl56⟩ ⟨rfl, rfl, rfl, trivial⟩
      · rintro _ w29 ⟨K27, rfl, hS30, hl28⟩
        refine qe_seq ?_
        refine wc_cond rfl (fun hb57 => ?_) (fun hb57 => ?_)
        · have h58 := cond_t hb57 h26
          refine wc_seq ?_
          refine wc_region ?_
          refine wl_val wn rfl (rv_assign (v := .bool false) rfl) ?_
          refine wl_nil ?_
          refine qe_seq ?_
          refine wc_ret ?_
          refine qe_block_ret ?_
          refine qe_then_ret ?_
          refine qe_then_ret ?_
          obtain rfl := Option.some.inj h58
          have e59 := hx21 _ rfl
          subst e59
          refine qe_block_ret ?_
          refine qe_then_ret ?_
          obtain rfl := Option.some.inj h13
          refine qe_then_ret ?_
          obtain rfl := Option.some.inj h4
          exact qe_ret (vs := [_]) Try.results96 ⟨rfl, trivial⟩ ⟨K27, rfl, hS30⟩
        · have h58 := cond_f hb57 h26
          refine wc_skip ?_
          refine qe_block ?_
          refine qe_seq ?_
          refine wc_region ?_
          refine wl_val wn rfl (rv_move rfl) ?_
          refine wl_val wn rfl (rv_add rfl rfl) ?_
          refine wl_val wn rfl (rv_assign rfl) ?_
          refine wl_nil ?_
          obtain rfl := Option.some.inj h58
          exact qe_mid' ⟨_, rfl, K27, rfl, hS30, (hl15.trans hl28), (w64_rng _)⟩ ⟨rfl, rfl, trivial⟩
    · have h23 := cond_f hb22 h20
      refine wc_exit ?_
      refine qe_then_exit ?_
      refine qe_then_exit ?_
      obtain rfl := Option.some.inj h23
      have e60 := hx21 _ rfl
      subst e60
      refine qe_block_eq ?_
      obtain rfl := Option.some.inj h13
      exact qe_mid' ⟨_, K14, rfl, rfl, hS17, hl15⟩ ⟨rfl, trivial⟩
  · rintro _ w8 ⟨s5, K6, rfl, rfl, hS9, hl7⟩
    refine qe_seq ?_
    refine wc_seq ?_
    refine wc_region ?_
    refine wl_val wn rfl (rv_move rfl) ?_
    refine wl_val wn rfl (rv_slen Try.underlying9 rfl) ?_
    obtain ⟨r63, hx64, h65⟩ := Option.bind_eq_some_iff.1 h4
    refine wl_call wn rfl (rt_call (vs := [.int .i64 (p0_s.length : Int), .int .i64 1, .int .i64 12]) co60 rfl) ((ok_spec_l1In F) hS9.enter0 (rng_nat hl1) (by decide : rng64 1) (by decide : rng64 12) hx64) ?_
    rintro e69 w67 ⟨K66, rfl, hS68⟩
    refine ⟨_, rfl, ?_⟩
    have hS70 : SH _ _ _ _ _ [] := SH.call0 hS9 hS68
    refine wl_val wn rfl (rv_assign rfl) ?_
    refine wl_nil ?_
    refine qe_seq ?_
    refine wc_ret ?_
    obtain rfl := Option.some.inj h65
    exact qe_ret (vs := [_]) Try.results96 ⟨rfl, trivial⟩ ⟨K66, rfl, hS70⟩

theorem ok_spec_l19DiskOk (F : Nat) {w : World} {K : KMap} {a1 : Option Addr} {n2 c3 : Nat} {p0_d : GDisk} {r : Bool} (hS : SH w K [] w K []) (hs4 : SliceAt tGFile K a1 n2 c3 p0_d.Files) (hm : M.spec_l19DiskOk F p0_d = some r) :
    Calls Try.prog 50 #[.agg #[.slice a1 n2 c3]] w fun e w' => ∃ (K' : KMap), e = .returned (.bool r) ∧ SH w K [] w' K' [] := by
  rw [M.spec_l19DiskOk] at hm
  refine calls_in Try.func50 rfl Try.ntmps50 rfl ?_
  refine wc_seq ?_
  refine wc_region ?_
  refine wl_box wn rfl rfl hS ?_
  intro g5 w6 hS7
  have hS8 : SH _ _ _ _ _ [obj g5 [.slice a1 n2 c3] 29] := hS7
  refine wl_val wn rfl (rv_assign (v := .bool false) rfl) ?_
  refine wl_nil ?_
  refine qe_seq ?_
  refine wc_seq ?_
  refine wc_seq ?_
  refine wc_region ?_
  refine wl_val wn rfl (rv_assign (v := .int .i64 0) rfl) ?_
  refine wl_nil ?_
  refine qe_seq ?_
  obtain ⟨o9, h10, h11⟩ := Option.bind_eq_some_iff.1 hm
  refine wc_cutg (fun E' w' => ∃ (s12 : Unit) (K13 : KMap), o9 = .inl s12 ∧ E' = [(1, .pointer (some ⟨g5, 0, none⟩))] ∧ SH w K [] w' K13 [obj g5 [.slice a1 n2 c3] 29] ∧ KLe K K13) ?_ ?_
  · refine wc_block ?_
    obtain ⟨r18, h19, h20⟩ := Option.bind_eq_some_iff.1 h10
    refine wc_while' (fun (s17 : Int) E' w' => ∃ (K21 : KMap), E' = [(1, .pointer (some ⟨g5, 0, none⟩)), (3, .int .i64 s17)] ∧ SH w K [] w' K21 [obj g5 [.slice a1 n2 c3] 29] ∧ KLe K K21 ∧ rng64 s17) h19 ⟨K, rfl, hS8, (KLe.refl _), (by decide : rng64 0)⟩ ⟨rfl, rfl, trivial⟩ ?_
    rintro s17 _ w23 r26 h27 hx28 ⟨K21, rfl, hS24, hl22, hr25⟩
    refine wc_seq ?_
    refine wc_seq ?_
    refine wc_region ?_
    refine wl_val wn rfl (rv_move rfl) ?_
    refine wl_val wn rfl (rv_fieldAddr ff29_0 rfl) ?_
    refine wl_val wn rfl (rv_loadm1 tf27 rfl (.head _) hS24 rfl) ?_
    refine wl_val wn rfl (rv_len (t := tGFile) Try.underlying27 rfl (SliceAt.mono hl22 hs4)) ?_
    refine wl_val wn rfl (rv_lss rfl rfl) ?_
    refine wl_nil ?_
    refine qe_seq ?_
    refine wc_cond rfl (fun hb29 => ?_) (fun hb29 => ?_)
    · have h30 := cond_t hb29 h27
      refine wc_skip ?_
      refine qe_seq ?_
      refine wc_seq ?_
      refine wc_block ?_
      refine wc_seq ?_
      obtain ⟨o31, h32, h33⟩ := Option.bind_eq_some_iff.1 h30
      refine wc_cutg (fun E' w' => ∃ (K34 : KMap), E' = [(1, .pointer (some ⟨g5, 0, none⟩)), (3, .int .i64 s17), (38, .bool o31)] ∧ SH w K [] w' K34 [obj g5 [.slice a1 n2 c3] 29] ∧ KLe K21 K34) ?_ ?_
      · refine wc_quiet mixed (by kernel_rfl) hS24 ?_
        refine wq_val wn rfl (fun _ _ => (rv_fieldAddr ff29_0 rfl)) ?_
        refine wq_val wn rfl (rq_loadm1 tf27 rfl (.head _) rfl) ?_
        refine wq_val wn rfl (fun _ _ => (rv_move rfl)) ?_
        obtain ⟨x38, hx39, h40⟩ := Option.bind_eq_some_iff.1 h32
        refine wq_indexAddr (t := tGFile) wn rfl Try.underlying27 tf85 rfl rfl (SliceAt.mono hl22 hs4) hx39 ?_
        intro b41 o42 u43 hu44 ha45
        obtain ⟨rfl, hl46, hl47⟩ := hu44
        have ha48 : AtK _ b41 o42 [sv x38.Name, sv x38.Text] := ha45
        refine wq_val wn rfl (fun _ _ => (rv_fieldAddr ff85_0 rfl)) ?_
        refine wq_val wn rfl (rq_load1 tf9 rfl (ha48 0 _ rfl)) ?_
        obtain ⟨r49, hx50, h51⟩ := Option.bind_eq_some_iff.1 h40
        refine wq_call (v := .bool r49) wn rfl (fun _ => rt_call (vs := [sv x38.Name]) co96 rfl) (fun w54 ⟨K52, hS53, hl55⟩ => ((ok_spec_l1WordOk F) hS53.enter0 hl46 hx50).mono fun e w' ⟨K', he, hS'⟩ => ⟨he, K', hS53.call0 hS', hl55.trans hS'.le⟩) ?_
        refine wq_val wn rfl (fun _ _ => (rv_not rfl)) ?_
        refine wq_val wn rfl (fun _ _ => (rv_move rfl)) ?_
        rcases bool_tf ((!r49)) with hb56 | hb56
        · have h57 := cond_t hb56 h51
          refine wq_un (ug rfl rfl hb56) rfl ?_
          refine wq_un (ug rfl rfl hb56) rfl ?_
          refine wq_un (ug rfl rfl hb56) rfl ?_
          refine wq_un (uu rfl rfl) rfl ?_
          refine wq_un (uu rfl rfl) rfl ?_
          refine wq_un (uu rfl rfl) rfl ?_
          refine wq_un (uu rfl rfl) rfl ?_
          refine wq_un (uu rfl rfl) rfl ?_
          refine wq_un (uu rfl rfl) rfl ?_
          refine wq_un (uu rfl rfl) rfl ?_
          refine wq_un (uu rfl rfl) rfl ?_
          refine wq_un (uu rfl rfl) rfl ?_
          refine wq_un (uu rfl rfl) rfl ?_
          refine wq_un (uu rfl rfl) rfl ?_
          refine wq_un (uu rfl rfl) rfl ?_
          refine wq_un (uu rfl rfl) rfl ?_
          refine wq_un (uu rfl rfl) rfl ?_
          refine wq_un (ug rfl rfl hb56) rfl ?_
          refine wq_val wn rfl (fun _ _ => (rv_pick_t (v := .bool true) rfl hb56 rfl)) ?_
          refine wq_nil ?_
          rintro w59 ⟨K58, hS60, hl61⟩
          obtain rfl := Option.some.inj h57
          exact qe_mid' ⟨K58, rfl, hS60, hl61⟩ ⟨rfl, rfl, rfl, trivial⟩
        · have h57 := cond_f hb56 h51
          refine wq_val (wg rfl rfl hb56) rfl (fun _ _ => (rv_move rfl)) ?_
          refine wq_val (wg rfl rfl hb56) rfl (fun _ _ => (rv_gtr rfl rfl)) ?_
          refine wq_val (wg rfl rfl hb56) rfl (fun _ _ => (rv_move rfl)) ?_
          rcases bool_tf (decide ((0 : Int) < s17)) with hb62 | hb62
          · have h63 := cond_t hb62 h57
            refine wq_val (wg rfl rfl hb62) rfl (fun _ _ => (rv_fieldAddr ff29_0 rfl)) ?_
            refine wq_val (wg rfl rfl hb62) rfl (rq_loadm1 tf27 rfl (.head _) rfl) ?_
            refine wq_val (wg rfl rfl hb62) rfl (fun _ _ => (rv_move rfl)) ?_
            obtain ⟨x64, hx65, h66⟩ := Option.bind_eq_some_iff.1 h63
            refine wq_indexAddr (t := tGFile) (wg rfl rfl hb62) rfl Try.underlying27 tf85 rfl rfl (SliceAt.mono hl22 hs4) hx65 ?_
            intro b67 o68 u69 hu70 ha71
            obtain ⟨rfl, hl72, hl73⟩ := hu70
            have ha74 : AtK _ b67 o68 [sv x64.Name, sv x64.Text] := ha71
            refine wq_val (wg rfl rfl hb62) rfl (fun _ _ => (rv_fieldAddr ff85_0 rfl)) ?_
            refine wq_val (wg rfl rfl hb62) rfl (rq_load1 tf9 rfl (ha74 0 _ rfl)) ?_
            refine wq_val (wg rfl rfl hb62) rfl (fun _ _ => (rv_fieldAddr ff29_0 rfl)) ?_
            refine wq_val (wg rfl rfl hb62) rfl (rq_loadm1 tf27 rfl (.head _) rfl) ?_
            refine wq_val (wg rfl rfl hb62) rfl (fun _ _ => (rv_move rfl)) ?_
            refine wq_val (wg rfl rfl hb62) rfl (fun _ _ => (rv_sub rfl rfl)) ?_
            obtain ⟨x75, hx76, h77⟩ := Option.bind_eq_some_iff.1 h66
            refine wq_indexAddr (t := tGFile) (wg rfl rfl hb62) rfl Try.underlying27 tf85 rfl rfl (SliceAt.mono hl22 hs4) hx76 ?_
            intro b78 o79 u80 hu81 ha82
            obtain ⟨rfl, hl83, hl84⟩ := hu81
            have ha85 : AtK _ b78 o79 [sv x75.Name, sv x75.Text] := ha82
            refine wq_val (wg rfl rfl hb62) rfl (fun _ _ => (rv_fieldAddr ff85_0 rfl)) ?_
            refine wq_val (wg rfl rfl hb62) rfl (rq_load1 tf9 rfl (ha85 0 _ rfl)) ?_
            refine wq_val (wg rfl rfl hb62) rfl (fun _ _ => (rv_sleq rfl rfl)) ?_
            refine wq_val (wg rfl rfl hb56) rfl (fun _ _ => (rv_pick_t rfl hb62 rfl)) ?_
            refine wq_val wn rfl (fun _ _ => (rv_pick_f rfl hb56 rfl)) ?_
            refine wq_nil ?_
            rintro w87 ⟨K86, hS88, hl89⟩
            obtain rfl := Option.some.inj h77
            exact qe_mid' ⟨K86, rfl, hS88, hl89⟩ ⟨rfl, rfl, rfl, trivial⟩
          · have h63 := cond_f hb62 h57
            refine wq_un (ug rfl rfl hb62) rfl ?_
            refine wq_un (ug rfl rfl hb62) rfl ?_
            refine wq_un (ug rfl rfl hb62) rfl ?_
            refine wq_un (ug rfl rfl hb62) rfl ?_
            refine wq_un (ug rfl rfl hb62) rfl ?_
            refine wq_un (ug rfl rfl hb62) rfl ?_
            refine wq_un (ug rfl rfl hb62) rfl ?_
            refine wq_un (ug rfl rfl hb62) rfl ?_
            refine wq_un (ug rfl rfl hb62) rfl ?_
            refine wq_un (ug rfl rfl hb62) rfl ?_
            refine wq_un (ug rfl rfl hb62) rfl ?_
            refine wq_un (ug rfl rfl hb62) rfl ?_
            refine wq_un (ug rfl rfl hb62) rfl ?_
            refine wq_un (ug rfl rfl hb62) rfl ?_
            refine wq_val (wg rfl rfl hb56) rfl (fun _ _ => (rv_pick_f (v := .bool false) rfl hb62 rfl)) ?_
            refine wq_val wn rfl (fun _ _ => (rv_pick_f rfl hb56 rfl)) ?_
            refine wq_nil ?_
            rintro w91 ⟨K90, hS92, hl93⟩
            obtain rfl := Option.some.inj h63
            exact qe_mid' ⟨K90, rfl, hS92, hl93⟩ ⟨rfl, rfl, rfl, trivial⟩
      · rintro _ w36 ⟨K34, rfl, hS37, hl35⟩
        refine qe_seq ?_
        refine wc_cond rfl (fun hb94 => ?_) (fun hb94 => ?_)
        · have h95 := cond_t hb94 h33
          refine wc_seq ?_
          refine wc_region ?_
          refine wl_val wn rfl (rv_assign (v := .bool false) rfl) ?_
          refine wl_nil ?_
          refine qe_seq ?_
          refine wc_ret ?_
          refine qe_block_ret ?_
          refine qe_then_ret ?_
          refine qe_then_ret ?_
          obtain rfl := Option.some.inj h95
          have e96 := hx28 _ rfl
          subst e96
          refine qe_block_ret ?_
          refine qe_then_ret ?_
          obtain rfl := Option.some.inj h20
          refine qe_then_ret ?_
          obtain rfl := Option.some.inj h11
          have hS97 : SH _ _ _ _ _ [] := SH.sublist hS37 (.cons _ .slnil)
          exact qe_ret (vs := [_]) Try.results50 ⟨rfl, trivial⟩ ⟨K34, rfl, hS97⟩
        · have h95 := cond_f hb94 h33
          refine wc_skip ?_
          refine qe_block ?_
          refine qe_seq ?_
          refine wc_region ?_
          refine wl_val wn rfl (rv_move rfl) ?_
          refine wl_val wn rfl (rv_add rfl rfl) ?_
          refine wl_val wn rfl (rv_assign rfl) ?_
          refine wl_nil ?_
          obtain rfl := Option.some.inj h95
          exact qe_mid' ⟨_, rfl, K34, rfl, hS37, (hl22.trans hl35), (w64_rng _)⟩ ⟨rfl, rfl, trivial⟩
    · have h30 := cond_f hb29 h27
      refine wc_exit ?_
      refine qe_then_exit ?_
      refine qe_then_exit ?_
      obtain rfl := Option.some.inj h30
      have e98 := hx28 _ rfl
      subst e98
      refine qe_block_eq ?_
      obtain rfl := Option.some.inj h20
      exact qe_mid' ⟨_, K21, rfl, rfl, hS24, hl22⟩ ⟨rfl, trivial⟩
  · rintro _ w15 ⟨s12, K13, rfl, rfl, hS16, hl14⟩
    refine qe_seq ?_
    refine wc_seq ?_
    refine wc_region ?_
    refine wl_val wn rfl (rv_fieldAddr ff29_0 rfl) ?_
    refine wl_val wn rfl (rv_loadm1 tf27 rfl (.head _) hS16 rfl) ?_
    refine wl_val wn rfl (rv_len (t := tGFile) Try.underlying27 rfl (SliceAt.mono hl14 hs4)) ?_
    refine wl_val wn rfl (rv_leq rfl rfl) ?_
    refine wl_val wn rfl (rv_assign rfl) ?_
    refine wl_nil ?_
    refine qe_seq ?_
    refine wc_ret ?_
    obtain rfl := Option.some.inj h11
    have hS101 : SH _ _ _ _ _ [] := SH.sublist hS16 (.cons _ .slnil)
    exact qe_ret (vs := [_]) Try.results50 ⟨rfl, trivial⟩ ⟨K13, rfl, hS101⟩

theorem ok_spec_DiskOk (F : Nat) {w : World} {K : KMap} {a1 : Option Addr} {n2 c3 : Nat} {p0_d : GDisk} {r : Bool} (hS : SH w K [] w K []) (hs4 : SliceAt tGFile K a1 n2 c3 p0_d.Files) (hm : M.spec_DiskOk F p0_d = some r) :
    Calls Try.prog 10 #[.agg #[.slice a1 n2 c3]] w fun e w' => ∃ (K' : KMap), e = .returned (.bool r) ∧ SH w K [] w' K' [] := by
  rw [M.spec_DiskOk] at hm
  refine calls_in Try.func10 rfl Try.ntmps10 rfl ?_
  refine wc_seq ?_
  refine wc_region ?_
  refine wl_box wn rfl rfl hS ?_
  intro g5 w6 hS7
  have hS8 : SH _ _ _ _ _ [obj g5 [.slice a1 n2 c3] 29] := hS7
  refine wl_val wn rfl (rv_assign (v := .bool false) rfl) ?_
  refine wl_nil ?_
  refine qe_seq ?_
  refine wc_seq ?_
  refine wc_region ?_
  refine wl_val wn rfl (rv_loadmS (ds := [.slice a1 n2 c3]) tf29 rfl (.head _) hS8 rfl rfl) ?_
  obtain ⟨r9, hx10, h11⟩ := Option.bind_eq_some_iff.1 hm
  refine wl_call wn rfl (rt_call (vs := [.agg #[.slice a1 n2 c3]]) co50 rfl) ((ok_spec_l19DiskOk F) hS8.enter0 hs4 hx10) ?_
  rintro e15 w13 ⟨K12, rfl, hS14⟩
  refine ⟨_, rfl, ?_⟩
  have hS16 : SH _ _ _ _ _ [_] := SH.call0 hS8 hS14
  refine wl_val wn rfl (rv_assign rfl) ?_
  refine wl_nil ?_
  refine qe_seq ?_
  refine wc_ret ?_
  obtain rfl := Option.some.inj h11
  have hS17 : SH _ _ _ _ _ [] := SH.sublist hS16 (.cons _ .slnil)
  exact qe_ret (vs := [_]) Try.results10 ⟨rfl, trivial⟩ ⟨K12, rfl, hS17⟩
end Go.Proofs.Ytajfhpaokbgmeaa
