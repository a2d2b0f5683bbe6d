/-
  Walks of the functions. Printed by gen.py.
-/
import Derived.Test.YtajfhpaokbgmeaaWalkA0
set_option linter.unusedVariables false
namespace Go.Proofs.Ytajfhpaokbgmeaa
open Go Go.Fk Go.RowKit

theorem ok_laws_toFile (F : Nat) {w : World} {K : KMap} {p0_a : GFile} {r : GFile} (hS : SH w K [] w K []) (hl1 : p0_a.Name.length ≤ maxLen) (hl2 : p0_a.Text.length ≤ maxLen) (hm : M.laws_toFile F p0_a = some r) :
    Calls Try.prog 97 #[.agg #[sv p0_a.Name, sv p0_a.Text]] w fun e w' => ∃ (K' : KMap), e = .returned (.agg #[sv r.Name, sv r.Text]) ∧ SH w K [] w' K' [] ∧ r.Name.length ≤ maxLen ∧ r.Text.length ≤ maxLen := by
  rw [M.laws_toFile] at hm
  refine calls_in Try.func97 rfl Try.ntmps97 rfl ?_
  refine wc_seq ?_
  refine wc_region ?_
  refine wl_box wn rfl rfl hS ?_
  intro g3 w4 hS5
  have hS6 : SH _ _ _ _ _ [obj g3 [sv p0_a.Name, sv p0_a.Text] 130] := hS5
  refine wl_alloc wn rfl tf85 hS6 ?_
  intro g7 w8 hS9
  have hS10 : SH _ _ _ _ _ [obj g7 [sv [], sv []] 85, _] := hS9
  refine wl_nil ?_
  refine qe_seq ?_
  refine wc_seq ?_
  refine wc_region ?_
  refine wl_alloc wn rfl tf85 hS10 ?_
  intro g11 w12 hS13
  have hS14 : SH _ _ _ _ _ [obj g11 [sv [], sv []] 85, _, _] := hS13
  refine wl_nil ?_
  refine qe_seq ?_
  refine wc_seq ?_
  refine wc_region ?_
  refine wl_val wn rfl (rv_fieldAddr ff130_0 rfl) ?_
  refine wl_val wn rfl (rv_loadm1 tf9 rfl (.tail _ (.tail _ (.head _))) hS14 rfl) ?_
  refine wl_val wn rfl (rv_fieldAddr ff85_0 rfl) ?_
  refine wl_store (cs' := [sv p0_a.Name, sv []]) (v := sv p0_a.Name) wn tf9 rfl rfl rfl (by simp [Value.cells, Value.oneCell', sv]) hS14 rfl rfl ?_
  intro w15 hS16
  refine wl_nil ?_
  refine qe_seq ?_
  refine wc_seq ?_
  refine wc_region ?_
  refine wl_val wn rfl (rv_fieldAddr ff130_1 rfl) ?_
  refine wl_val wn rfl (rv_loadm1 tf9 rfl (.tail _ (.tail _ (.head _))) hS16 rfl) ?_
  refine wl_val wn rfl (rv_fieldAddr ff85_1 rfl) ?_
  refine wl_store (cs' := [sv p0_a.Name, sv p0_a.Text]) (v := sv p0_a.Text) wn tf9 rfl rfl rfl (by simp [Value.cells, Value.oneCell', sv]) hS16 rfl rfl ?_
  intro w17 hS18
  refine wl_nil ?_
  refine qe_seq ?_
  refine wc_seq ?_
  refine wc_region ?_
  refine wl_val wn rfl (rv_loadmS (ds := [sv p0_a.Name, sv p0_a.Text]) tf85 rfl (.head _) hS18 rfl rfl) ?_
  have hS19 : SH _ _ _ _ _ [_, _, _] := SH.front (p := [_]) hS18
  refine wl_store (cs' := [sv p0_a.Name, sv p0_a.Text]) (v := .agg #[sv p0_a.Name, sv p0_a.Text]) wn tf85 rfl rfl rfl (by simp [Value.cells, Value.oneCell', sv]) hS19 rfl rfl ?_
  intro w20 hS21
  refine wl_nil ?_
  refine qe_seq ?_
  refine wc_ret ?_
  obtain rfl := Option.some.inj hm
  have hS22 : SH _ _ _ _ _ [] := SH.sublist hS21 (.cons _ (.cons _ (.cons _ .slnil)))
  exact qe_ret (vs := [_]) Try.results97 ⟨⟨_, _, rfl, run_loadVar_at tf85 (cs := [sv p0_a.Name, sv p0_a.Text]) (fun j c e => by rw [Nat.zero_add, hS21.mem_obj (.head _)]; exact e) (.inl ⟨rfl, rfl, rfl⟩)⟩, trivial⟩ ⟨K, rfl, hS22, hl1, hl2⟩

theorem ok_laws_toFileS (F : Nat) {w : World} {K : KMap} {a1 : Option Addr} {n2 c3 : Nat} {p0_a : List GFile} {r : (List GFile)} (hS : SH w K [] w K []) (hs4 : SliceAt tGFile K a1 n2 c3 p0_a) (hm : M.laws_toFileS F p0_a = some r) :
    Calls Try.prog 51 #[.slice a1 n2 c3] w fun e w' => ∃ (a_1 : Option Addr) (n_2 c_3 : Nat) (K' : KMap), e = .returned (.slice a_1 n_2 c_3) ∧ SH w K [] w' K' [tail (.slice a_1 n_2 c_3) 85 2] ∧ SliceAt tGFile K' a_1 n_2 c_3 r := by
  rw [M.laws_toFileS] at hm
  refine calls_in Try.func51 rfl Try.ntmps51 rfl ?_
  refine wc_seq ?_
  refine wc_region ?_
  refine wl_val wn rfl (rv_assign (v := .slice none 0 0) rfl) ?_
  refine wl_nil ?_
  refine qe_seq ?_
  refine wc_seq ?_
  refine wc_region ?_
  refine wl_val wn rfl (rv_move rfl) ?_
  refine wl_val wn rfl (rv_len (t := tGFile) Try.underlying22 rfl hs4) ?_
  obtain ⟨x5, hx6, h7⟩ := Option.bind_eq_some_iff.1 hm
  refine wl_make (t := tGFile) wn rfl Try.underlying27 tf85 rfl rfl rfl hx6 ⟨rfl, (by decide : ([] : Str).length ≤ maxLen), (by decide : ([] : Str).length ≤ maxLen)⟩ hS ?_
  intro g8 cs9 w10 hmx13 hrow11 hS12
  obtain ⟨m14, hm15⟩ : ∃ m, m = x5.length := ⟨_, rfl⟩
  rw [← hm15] at hmx13
  rw [← hm15]
  refine wl_val wn rfl (rv_assign rfl) ?_
  refine wl_nil ?_
  refine qe_seq ?_
  refine wc_seq ?_
  refine wc_seq ?_
  refine wc_region ?_
  refine wl_val wn rfl (rv_assign (v := .int .i64 0) rfl) ?_
  refine wl_nil ?_
  refine qe_seq ?_
  obtain ⟨o16, h17, h18⟩ := Option.bind_eq_some_iff.1 h7
  refine wc_cutg (fun E' w' => ∃ (cs23 : List Value) (K19 : KMap), E' = [(3, .slice (some ⟨g8, 0, none⟩) m14 m14)] ∧ SH w K [] w' K19 [obj g8 cs23 85] ∧ KLe K K19 ∧ RowAt true tGFile K19 cs23 o16 ∧ m14 = o16.length) ?_ ?_
  · refine wc_block ?_
    obtain ⟨r27, h28, h29⟩ := Option.bind_eq_some_iff.1 h17
    refine wc_while' (fun (s26 : Int × (List GFile)) E' w' => ∃ (cs35 : List Value) (K30 : KMap), E' = [(0, .slice a1 n2 c3), (3, .slice (some ⟨g8, 0, none⟩) m14 m14), (4, .int .i64 s26.1)] ∧ SH w K [] w' K30 [obj g8 cs35 85] ∧ KLe K K30 ∧ rng64 s26.1 ∧ RowAt true tGFile K30 cs35 s26.2 ∧ m14 = s26.2.length) h28 ⟨cs9, K, rfl, hS12, (KLe.refl _), (by decide : rng64 0), hrow11, hm15⟩ ⟨rfl, rfl, rfl, trivial⟩ ?_
    rintro s26 _ w32 r38 h39 hx40 ⟨cs35, K30, rfl, hS33, hl31, hr34, hrow36, hm37⟩
    refine wc_seq ?_
    refine wc_seq ?_
    refine wc_region ?_
    refine wl_val wn rfl (rv_move rfl) ?_
    refine wl_val wn rfl (rv_move rfl) ?_
    refine wl_val wn rfl (rv_len (t := tGFile) Try.underlying22 rfl (SliceAt.mono hl31 hs4)) ?_
    refine wl_val wn rfl (rv_lss rfl rfl) ?_
    refine wl_nil ?_
    refine qe_seq ?_
    refine wc_cond rfl (fun hb41 => ?_) (fun hb41 => ?_)
    · have h42 := cond_t hb41 h39
      refine wc_skip ?_
      refine qe_seq ?_
      refine wc_seq ?_
      refine wc_block ?_
      refine wc_region ?_
      refine wl_val wn rfl (rv_move rfl) ?_
      refine wl_val wn rfl (rv_move rfl) ?_
      refine wl_val wn rfl (rv_move rfl) ?_
      refine wl_val wn rfl (rv_move rfl) ?_
      obtain ⟨x43, hx44, h45⟩ := Option.bind_eq_some_iff.1 h42
      refine wl_indexAddr (t := tGFile) wn rfl Try.underlying22 tf130 rfl rfl (SliceAt.mono hl31 hs4) hx44 ?_
      intro b46 o47 u48 hu49 ha50
      obtain ⟨rfl, hl51, hl52⟩ := hu49
      have ha53 : AtK _ b46 o47 [sv x43.Name, sv x43.Text] := ha50
      refine wl_val wn rfl (rv_loadS (cs := [sv x43.Name, sv x43.Text]) tf130 rfl hS33 ha53 rfl) ?_
      obtain ⟨r54, hx55, h56⟩ := Option.bind_eq_some_iff.1 h45
      refine wl_call wn rfl (rt_call (vs := [.agg #[sv x43.Name, sv x43.Text]]) co97 rfl) ((ok_laws_toFile F) hS33.enter0 hl51 hl52 hx55) ?_
      rintro e62 w58 ⟨K57, rfl, hS59, hl60, hl61⟩
      refine ⟨_, rfl, ?_⟩
      have hS63 : SH _ _ _ _ _ [_] := SH.call0 hS33 hS59
      obtain ⟨x64, hx65, h66⟩ := Option.bind_eq_some_iff.1 h56
      obtain ⟨u67, hu68, hk69⟩ := RowAt.at (RowAt.mono hS59.le hrow36) hx65
      obtain ⟨rfl, hl71, hl72⟩ := hu68
      have hk70 : ∀ (j : Nat) (d : Value), [sv x64.Name, sv x64.Text][j]? = some d → cs35[s26.1.toNat * tGFile.size + j]? = some d := hk69
      refine wl_val wn rfl (rv_indexRow (t := tGFile) Try.underlying27 tf85 rfl rfl hm37 hx65) ?_
      refine wl_storeRow (t := tGFile) (v := .agg #[sv r54.Name, sv r54.Text]) (e := r54) wn tf85 rfl rfl ⟨rfl, hl60, hl61⟩ hS63 (RowAt.mono hS59.le hrow36) hx65 ?_
      intro cs73 w74 hrow75 hS76
      have hm77 := hm37.trans (List.length_set (i := s26.1.toNat) (a := r54)).symm
      refine wl_nil ?_
      refine qe_block ?_
      refine qe_seq ?_
      refine wc_region ?_
      refine wl_val wn rfl (rv_move rfl) ?_
      refine wl_val wn rfl (rv_add rfl rfl) ?_
      refine wl_val wn rfl (rv_assign rfl) ?_
      refine wl_nil ?_
      obtain rfl := Option.some.inj h66
      exact qe_mid' ⟨_, rfl, cs73, K57, rfl, hS76, (hl31.trans hS59.le), (w64_rng _), hrow75, hm77⟩ ⟨rfl, rfl, rfl, trivial⟩
    · have h42 := cond_f hb41 h39
      refine wc_exit ?_
      refine qe_then_exit ?_
      refine qe_then_exit ?_
      obtain rfl := Option.some.inj h42
      have e78 := hx40 _ rfl
      subst e78
      refine qe_block_eq ?_
      obtain rfl := Option.some.inj h29
      exact qe_mid' ⟨cs35, K30, rfl, hS33, hl31, hrow36, hm37⟩ ⟨rfl, trivial⟩
  · rintro _ w21 ⟨cs23, K19, rfl, hS22, hl20, hrow24, hm25⟩
    refine qe_seq ?_
    refine wc_seq ?_
    refine wc_region ?_
    refine wl_val wn rfl (rv_move rfl) ?_
    refine wl_val wn rfl (rv_assign rfl) ?_
    refine wl_nil ?_
    refine qe_seq ?_
    refine wc_ret ?_
    obtain ⟨K79, hl80, hs81, hS82⟩ := SH.freeze hS22 hrow24 (row_max hm25 hmx13)
    rw [← hm25] at hs81 hS82
    obtain rfl := Option.some.inj h18
    exact qe_ret (vs := [_]) Try.results51 ⟨rfl, trivial⟩ ⟨(some ⟨g8, 0, none⟩), m14, m14, K79, rfl, hS82, hs81⟩

theorem ok_laws_toDisk (F : Nat) {w : World} {K : KMap} {a1 : Option Addr} {n2 c3 : Nat} {p0_a : GDisk} {r : GDisk} (hS : SH w K [] w K []) (hs4 : SliceAt tGFile K a1 n2 c3 p0_a.Files) (hm : M.laws_toDisk F p0_a = some r) :
    Calls Try.prog 11 #[.agg #[.slice a1 n2 c3]] w fun e w' => ∃ (a_1 : Option Addr) (n_2 c_3 : Nat) (K' : KMap), e = .returned (.agg #[.slice a_1 n_2 c_3]) ∧ SH w K [] w' K' [] ∧ SliceAt tGFile K' a_1 n_2 c_3 r.Files := by
  rw [M.laws_toDisk] at hm
  refine calls_in Try.func11 rfl Try.ntmps11 rfl ?_
  refine wc_seq ?_
  refine wc_region ?_
  refine wl_box wn rfl rfl hS ?_
  intro g5 w6 hS7
  have hS8 : SH _ _ _ _ _ [obj g5 [.slice a1 n2 c3] 24] := hS7
  refine wl_alloc wn rfl tf29 hS8 ?_
  intro g9 w10 hS11
  have hS12 : SH _ _ _ _ _ [obj g9 [.slice none 0 0] 29, _] := hS11
  refine wl_nil ?_
  refine qe_seq ?_
  refine wc_seq ?_
  refine wc_region ?_
  refine wl_alloc wn rfl tf29 hS12 ?_
  intro g13 w14 hS15
  have hS16 : SH _ _ _ _ _ [obj g13 [.slice none 0 0] 29, _, _] := hS15
  refine wl_nil ?_
  refine qe_seq ?_
  refine wc_seq ?_
  refine wc_region ?_
  refine wl_val wn rfl (rv_fieldAddr ff24_0 rfl) ?_
  refine wl_val wn rfl (rv_loadm1 tf22 rfl (.tail _ (.tail _ (.head _))) hS16 rfl) ?_
  obtain ⟨r17, hx18, h19⟩ := Option.bind_eq_some_iff.1 hm
  refine wl_call wn rfl (rt_call (vs := [.slice a1 n2 c3]) co51 rfl) ((ok_laws_toFileS F) hS16.enter0 hs4 hx18) ?_
  rintro e27 w21 ⟨a23, n24, c25, K20, rfl, hS22, hs26⟩
  refine ⟨_, rfl, ?_⟩
  have hS28 : SH _ _ _ _ _ [_, _, _, _] := SH.call0 hS16 hS22
  refine wl_val wn rfl (rv_fieldAddr ff29_0 rfl) ?_
  have hS29 : SH _ _ _ _ _ [_, _, _, _] := SH.front (p := [_]) hS28
  refine wl_store (cs' := [.slice a23 n24 c25]) (v := .slice a23 n24 c25) wn tf27 rfl rfl rfl (by simp [Value.cells, Value.oneCell']) hS29 rfl rfl ?_
  intro w30 hS31
  refine wl_nil ?_
  refine qe_seq ?_
  refine wc_seq ?_
  refine wc_region ?_
  refine wl_val wn rfl (rv_loadmS (ds := [.slice a23 n24 c25]) tf29 rfl (.head _) hS31 rfl rfl) ?_
  have hS32 : SH _ _ _ _ _ [_, _, _, _] := SH.front (p := [_, _]) hS31
  refine wl_store (cs' := [.slice a23 n24 c25]) (v := .agg #[.slice a23 n24 c25]) wn tf29 rfl rfl rfl (by simp [Value.cells, Value.oneCell']) hS32 rfl rfl ?_
  intro w33 hS34
  refine wl_nil ?_
  refine qe_seq ?_
  refine wc_ret ?_
  obtain rfl := Option.some.inj h19
  have hS35 : SH _ _ _ _ _ [] := SH.sublist hS34 (.cons _ (.cons _ (.cons _ (.cons _ .slnil))))
  exact qe_ret (vs := [_]) Try.results11 ⟨⟨_, _, rfl, run_loadVar_at tf29 (cs := [.slice a23 n24 c25]) (fun j c e => by rw [Nat.zero_add, hS34.mem_obj (.head _)]; exact e) (.inl ⟨rfl, rfl, rfl⟩)⟩, trivial⟩ ⟨a23, n24, c25, K20, rfl, hS35, hs26⟩

theorem ok_impl_within (F : Nat) {w : World} {K : KMap} {p0_n : Int} {p1_low : Int} {p2_high : Int} {r : Bool} (hS : SH w K [] w K []) (hr1 : rng64 p0_n) (hr2 : rng64 p1_low) (hr3 : rng64 p2_high) (hm : M.impl_within F p0_n p1_low p2_high = some r) :
    Calls Try.prog 72 #[.int .i64 p0_n, .int .i64 p1_low, .int .i64 p2_high] w fun e w' => ∃ (K' : KMap), e = .returned (.bool r) ∧ SH w K [] w' K' [] := by
  rw [M.impl_within] at hm
  refine calls_in Try.func72 rfl Try.ntmps72 rfl ?_
  refine wc_seq ?_
  refine wc_region ?_
  refine wl_val wn rfl (rv_assign (v := .bool false) rfl) ?_
  refine wl_nil ?_
  refine qe_seq ?_
  refine wc_seq ?_
  refine wc_region ?_
  refine wl_val wn rfl (rv_move rfl) ?_
  refine wl_val wn rfl (rv_move rfl) ?_
  refine wl_val wn rfl (rv_geq rfl rfl) ?_
  refine wl_val wn rfl (rv_move rfl) ?_
  rcases bool_tf (decide (p1_low ≤ p0_n)) with hb4 | hb4
  · have h5 := cond_t hb4 hm
    refine wl_val (wg rfl rfl hb4) rfl (rv_move rfl) ?_
    refine wl_val (wg rfl rfl hb4) rfl (rv_move rfl) ?_
    refine wl_val (wg rfl rfl hb4) rfl (rv_leq rfl rfl) ?_
    refine wl_val wn rfl (rv_pick_t rfl hb4 rfl) ?_
    refine wl_val wn rfl (rv_assign rfl) ?_
    refine wl_nil ?_
    refine qe_seq ?_
    refine wc_ret ?_
    obtain rfl := Option.some.inj h5
    exact qe_ret (vs := [_]) Try.results72 ⟨rfl, trivial⟩ ⟨K, rfl, hS⟩
  · have h5 := cond_f hb4 hm
    refine wl_un (ug rfl rfl hb4) rfl ?_
    refine wl_un (ug rfl rfl hb4) rfl ?_
    refine wl_un (ug rfl rfl hb4) rfl ?_
    refine wl_val wn rfl (rv_pick_f (v := .bool false) rfl hb4 rfl) ?_
    refine wl_val wn rfl (rv_assign rfl) ?_
    refine wl_nil ?_
    refine qe_seq ?_
    refine wc_ret ?_
    obtain rfl := Option.some.inj h5
    exact qe_ret (vs := [_]) Try.results72 ⟨rfl, trivial⟩ ⟨K, rfl, hS⟩

theorem ok_impl_wordByte (F : Nat) {w : World} {K : KMap} {p0_b : UInt8} {r : Bool} (hS : SH w K [] w K []) (hm : M.impl_wordByte F p0_b = some r) :
    Calls Try.prog 98 #[iv8 p0_b] w fun e w' => ∃ (K' : KMap), e = .returned (.bool r) ∧ SH w K [] w' K' [] := by
  rw [M.impl_wordByte] at hm
  refine calls_in Try.func98 rfl Try.ntmps98 rfl ?_
  refine wc_seq ?_
  refine wc_region ?_
  refine wl_val wn rfl (rv_assign (v := .bool false) rfl) ?_
  refine wl_nil ?_
  refine qe_seq ?_
  refine wc_seq ?_
  refine wc_region ?_
  refine wl_val wn rfl (rv_move rfl) ?_
  refine wl_val wn rfl (rv_bge (b := (97 : UInt8)) rfl rfl) ?_
  refine wl_val wn rfl (rv_move rfl) ?_
  rcases bool_tf (decide ((97 : UInt8) ≤ p0_b)) with hb1 | hb1
  · have h2 := cond_t hb1 hm
    refine wl_val (wg rfl rfl hb1) rfl (rv_move rfl) ?_
    refine wl_val (wg rfl rfl hb1) rfl (rv_ble (b := (122 : UInt8)) rfl rfl) ?_
    refine wl_val wn rfl (rv_pick_t rfl hb1 rfl) ?_
    refine wl_val wn rfl (rv_move rfl) ?_
    rcases bool_tf (decide (p0_b ≤ (122 : UInt8))) with hb3 | hb3
    · have h4 := cond_t hb3 h2
      refine wl_un (ug rfl rfl hb3) rfl ?_
      refine wl_un (ug rfl rfl hb3) rfl ?_
      refine wl_un (ug rfl rfl hb3) rfl ?_
      refine wl_un (uu rfl rfl) rfl ?_
      refine wl_un (uu rfl rfl) rfl ?_
      refine wl_un (ug rfl rfl hb3) rfl ?_
      refine wl_val wn rfl (rv_pick_t (v := .bool true) rfl hb3 rfl) ?_
      refine wl_val wn rfl (rv_assign rfl) ?_
      refine wl_nil ?_
      refine qe_seq ?_
      refine wc_ret ?_
      obtain rfl := Option.some.inj h4
      exact qe_ret (vs := [_]) Try.results98 ⟨rfl, trivial⟩ ⟨K, rfl, hS⟩
    · have h4 := cond_f hb3 h2
      refine wl_val (wg rfl rfl hb3) rfl (rv_move rfl) ?_
      refine wl_val (wg rfl rfl hb3) rfl (rv_bge (b := (48 : UInt8)) rfl rfl) ?_
      refine wl_val (wg rfl rfl hb3) rfl (rv_move rfl) ?_
      rcases bool_tf (decide ((48 : UInt8) ≤ p0_b)) with hb5 | hb5
      · have h6 := cond_t hb5 h4
        refine wl_val (wg rfl rfl hb5) rfl (rv_move rfl) ?_
        refine wl_val (wg rfl rfl hb5) rfl (rv_ble (b := (57 : UInt8)) rfl rfl) ?_
        refine wl_val (wg rfl rfl hb3) rfl (rv_pick_t rfl hb5 rfl) ?_
        refine wl_val wn rfl (rv_pick_f rfl hb3 rfl) ?_
        refine wl_val wn rfl (rv_assign rfl) ?_
        refine wl_nil ?_
        refine qe_seq ?_
        refine wc_ret ?_
        obtain rfl := Option.some.inj h6
        exact qe_ret (vs := [_]) Try.results98 ⟨rfl, trivial⟩ ⟨K, rfl, hS⟩
      · have h6 := cond_f hb5 h4
        refine wl_un (ug rfl rfl hb5) rfl ?_
        refine wl_un (ug rfl rfl hb5) rfl ?_
        refine wl_val (wg rfl rfl hb3) rfl (rv_pick_f (v := .bool false) rfl hb5 rfl) ?_
        refine wl_val wn rfl (rv_pick_f rfl hb3 rfl) ?_
        refine wl_val wn rfl (rv_assign rfl) ?_
        refine wl_nil ?_
        refine qe_seq ?_
        refine wc_ret ?_
        obtain rfl := Option.some.inj h6
        exact qe_ret (vs := [_]) Try.results98 ⟨rfl, trivial⟩ ⟨K, rfl, hS⟩
  · have h2 := cond_f hb1 hm
    refine wl_un (ug rfl rfl hb1) rfl ?_
    refine wl_un (ug rfl rfl hb1) rfl ?_
    refine wl_val wn rfl (rv_pick_f (v := .bool false) rfl hb1 rfl) ?_
    refine wl_val wn rfl (rv_move rfl) ?_
    refine wl_val (wg rfl rfl rfl) rfl (rv_move rfl) ?_
    refine wl_val (wg rfl rfl rfl) rfl (rv_bge (b := (48 : UInt8)) rfl rfl) ?_
    refine wl_val (wg rfl rfl rfl) rfl (rv_move rfl) ?_
    rcases bool_tf (decide ((48 : UInt8) ≤ p0_b)) with hb7 | hb7
    · have h8 := cond_t hb7 h2
      refine wl_val (wg rfl rfl hb7) rfl (rv_move rfl) ?_
      refine wl_val (wg rfl rfl hb7) rfl (rv_ble (b := (57 : UInt8)) rfl rfl) ?_
      refine wl_val (wg rfl rfl rfl) rfl (rv_pick_t rfl hb7 rfl) ?_
      refine wl_val wn rfl (rv_pick_f rfl rfl rfl) ?_
      refine wl_val wn rfl (rv_assign rfl) ?_
      refine wl_nil ?_
      refine qe_seq ?_
      refine wc_ret ?_
      obtain rfl := Option.some.inj h8
      exact qe_ret (vs := [_]) Try.results98 ⟨rfl, trivial⟩ ⟨K, rfl, hS⟩
    · have h8 := cond_f hb7 h2
      refine wl_un (ug rfl rfl hb7) rfl ?_
      refine wl_un (ug rfl rfl hb7) rfl ?_
      refine wl_val (wg rfl rfl rfl) rfl (rv_pick_f (v := .bool false) rfl hb7 rfl) ?_
      refine wl_val wn rfl (rv_pick_f rfl rfl rfl) ?_
      refine wl_val wn rfl (rv_assign rfl) ?_
      refine wl_nil ?_
      refine qe_seq ?_
      refine wc_ret ?_
      obtain rfl := Option.some.inj h8
      exact qe_ret (vs := [_]) Try.results98 ⟨rfl, trivial⟩ ⟨K, rfl, hS⟩

theorem ok_impl_WordOk (F : Nat) {w : World} {K : KMap} {p0_s : Str} {r : Bool} (hS : SH w K [] w K []) (hl1 : p0_s.length ≤ maxLen) (hm : M.impl_WordOk F p0_s = some r) :
    Calls Try.prog 52 #[sv p0_s] w fun e w' => ∃ (K' : KMap), e = .returned (.bool r) ∧ SH w K [] w' K' [] := by
  rw [M.impl_WordOk] at hm
  refine calls_in Try.func52 rfl Try.ntmps52 rfl ?_
  refine wc_seq ?_
  refine wc_region ?_
  refine wl_val wn rfl (rv_assign (v := .bool false) rfl) ?_
  refine wl_nil ?_
  refine qe_seq ?_
  refine wc_seq ?_
  refine wc_seq ?_
  refine wc_region ?_
  refine wl_val wn rfl (rv_move rfl) ?_
  refine wl_val wn rfl (rv_slen Try.underlying9 rfl) ?_
  refine wl_val wn rfl (rv_move (v := .int .i64 0) rfl) ?_
  refine wl_nil ?_
  refine qe_seq ?_
  obtain ⟨o2, h3, h4⟩ := Option.bind_eq_some_iff.1 hm
  refine wc_cutg (fun E' w' => ∃ (s5 : Unit) (K6 : KMap), o2 = .inl s5 ∧ E' = [(0, sv p0_s)] ∧ SH w K [] w' K6 [] ∧ KLe K K6) ?_ ?_
  · refine wc_block ?_
    obtain ⟨r11, h12, h13⟩ := Option.bind_eq_some_iff.1 h3
    refine wc_for' (fun (i14 : Nat) (s10 : Unit) E' w' => ∃ (K15 : KMap), E' = [(0, sv p0_s), (5, .int .i64 (p0_s.length : Int)), (6, .int .i64 ((i14 : Nat) : Int))] ∧ SH w K [] w' K15 [] ∧ KLe K K15) h12 ⟨K, rfl, hS, (KLe.refl _)⟩ ⟨rfl, rfl, rfl, trivial⟩ ?_ ?_
    · rintro i14 s10 _ w17 r19 hi20 h21 hx22 ⟨K15, rfl, hS18, hl16⟩
      refine wc_seq (wc_region ?_)
      refine wl_val wn rfl (rv_lss rfl rfl) ?_
      refine wl_nil (qe_seq (wc_seq ?_))
      refine wc_cond_t rfl (decide_eq_true (by omega)) (wc_skip (qe_seq (wc_seq ?_)))
      refine wc_block ?_
      refine wc_seq ?_
      refine wc_region ?_
      refine wl_val wn rfl (rv_move rfl) ?_
      refine wl_val wn rfl (rv_assign rfl) ?_
      refine wl_nil ?_
      refine qe_seq ?_
      refine wc_seq ?_
      refine wc_region ?_
      refine wl_val wn rfl (rv_move rfl) ?_
      refine wl_val wn rfl (rv_move rfl) ?_
      obtain ⟨x23, hx24, h25⟩ := Option.bind_eq_some_iff.1 h21
      refine wl_val wn rfl (rv_sidx Try.underlying9 rfl rfl hx24) ?_
      obtain ⟨r26, hx27, h28⟩ := Option.bind_eq_some_iff.1 h25
      refine wl_call wn rfl (rt_call (vs := [iv8 x23]) co98 rfl) ((ok_impl_wordByte F) hS18.enter0  hx27) ?_
      rintro e32 w30 ⟨K29, rfl, hS31⟩
      refine ⟨_, rfl, ?_⟩
      have hS33 : SH _ _ _ _ _ [] := SH.call0 hS18 hS31
      refine wl_val wn rfl (rv_not rfl) ?_
      refine wl_nil ?_
      refine qe_seq ?_
      refine wc_cond rfl (fun hb34 => ?_) (fun hb34 => ?_)
      · have h35 := cond_t hb34 h28
        refine wc_seq ?_
        refine wc_region ?_
        refine wl_val wn rfl (rv_assign (v := .bool false) rfl) ?_
        refine wl_nil ?_
        refine qe_seq ?_
        refine wc_ret ?_
        refine qe_block_ret ?_
        refine qe_then_ret ?_
        refine qe_then_ret ?_
        obtain rfl := Option.some.inj h35
        have e36 := hx22 _ rfl
        subst e36
        refine qe_block_ret ?_
        refine qe_then_ret ?_
        obtain rfl := Option.some.inj h13
        refine qe_then_ret ?_
        obtain rfl := Option.some.inj h4
        exact qe_ret (vs := [_]) Try.results52 ⟨rfl, trivial⟩ ⟨K29, rfl, hS33⟩
      · have h35 := cond_f hb34 h28
        refine wc_skip ?_
        refine qe_block ?_
        refine qe_seq (wc_region ?_)
        refine wl_val wn rfl (rv_add_to rfl rfl (w64_succ hi20 hl1)) ?_
        refine wl_val wn rfl (rv_move rfl) ?_
        refine wl_nil ?_
        obtain rfl := Option.some.inj h35
        exact qe_mid' ⟨_, rfl, K29, rfl, hS33, (hl16.trans hS31.le)⟩ ⟨rfl, rfl, rfl, trivial⟩
    · rintro s10 _ w17 hr37 ⟨K15, rfl, hS18, hl16⟩
      subst hr37
      refine wc_seq (wc_region ?_)
      refine wl_val wn rfl (rv_lss rfl rfl) ?_
      refine wl_nil (qe_seq (wc_seq ?_))
      refine wc_cond_f rfl (decide_eq_false (by omega)) ?_
      refine wc_exit ?_
      refine qe_then_exit ?_
      refine qe_then_exit ?_
      refine qe_block_eq ?_
      obtain rfl := Option.some.inj h13
      exact qe_mid' ⟨_, K15, rfl, rfl, hS18, hl16⟩ ⟨rfl, trivial⟩
  · rintro _ w8 ⟨s5, K6, rfl, rfl, hS9, hl7⟩
    refine qe_seq ?_
    refine wc_seq ?_
    refine wc_region ?_
    refine wl_val wn rfl (rv_move rfl) ?_
    refine wl_val wn rfl (rv_slen Try.underlying9 rfl) ?_
    obtain ⟨r39, hx40, h41⟩ := Option.bind_eq_some_iff.1 h4
    refine wl_call wn rfl (rt_call (vs := [.int .i64 (p0_s.length : Int), .int .i64 1, .int .i64 12]) co72 rfl) ((ok_impl_within F) hS9.enter0 (rng_nat hl1) (by decide : rng64 1) (by decide : rng64 12) hx40) ?_
    rintro e45 w43 ⟨K42, rfl, hS44⟩
    refine ⟨_, rfl, ?_⟩
    have hS46 : SH _ _ _ _ _ [] := SH.call0 hS9 hS44
    refine wl_val wn rfl (rv_assign rfl) ?_
    refine wl_nil ?_
    refine qe_seq ?_
    refine wc_ret ?_
    obtain rfl := Option.some.inj h41
    exact qe_ret (vs := [_]) Try.results52 ⟨rfl, trivial⟩ ⟨K42, rfl, hS46⟩

theorem ok_impl_DiskOk (F : Nat) {w : World} {K : KMap} {a1 : Option Addr} {n2 c3 : Nat} {p0_d : GDisk} {r : Bool} (hS : SH w K [] w K []) (hs4 : SliceAt tGFile K a1 n2 c3 p0_d.Files) (hm : M.impl_DiskOk F p0_d = some r) :
    Calls Try.prog 12 #[.agg #[.slice a1 n2 c3]] w fun e w' => ∃ (K' : KMap), e = .returned (.bool r) ∧ SH w K [] w' K' [] := by
  rw [M.impl_DiskOk] at hm
  refine calls_in Try.func12 rfl Try.ntmps12 rfl ?_
  refine wc_seq ?_
  refine wc_region ?_
  refine wl_box wn rfl rfl hS ?_
  intro g5 w6 hS7
  have hS8 : SH _ _ _ _ _ [obj g5 [.slice a1 n2 c3] 29] := hS7
  refine wl_val wn rfl (rv_assign (v := .bool false) rfl) ?_
  refine wl_nil ?_
  refine qe_seq ?_
  refine wc_seq ?_
  refine wc_seq ?_
  refine wc_region ?_
  refine wl_val wn rfl (rv_fieldAddr ff29_0 rfl) ?_
  refine wl_val wn rfl (rv_loadm1 tf27 rfl (.head _) hS8 rfl) ?_
  refine wl_val wn rfl (rv_len (t := tGFile) Try.underlying27 rfl hs4) ?_
  refine wl_val wn rfl (rv_move (v := .int .i64 0) rfl) ?_
  refine wl_nil ?_
  refine qe_seq ?_
  obtain ⟨o9, h10, h11⟩ := Option.bind_eq_some_iff.1 hm
  refine wc_cutg (fun E' w' => ∃ (s12 : Unit) (K13 : KMap), o9 = .inl s12 ∧ E' = [(1, .pointer (some ⟨g5, 0, none⟩))] ∧ SH w K [] w' K13 [obj g5 [.slice a1 n2 c3] 29] ∧ KLe K K13) ?_ ?_
  · refine wc_block ?_
    obtain ⟨r18, h19, h20⟩ := Option.bind_eq_some_iff.1 h10
    refine wc_for' (fun (i21 : Nat) (s17 : Unit) E' w' => ∃ (K22 : KMap), E' = [(1, .pointer (some ⟨g5, 0, none⟩)), (6, .slice a1 n2 c3), (7, .int .i64 (p0_d.Files.length : Int)), (8, .int .i64 ((i21 : Nat) : Int))] ∧ SH w K [] w' K22 [obj g5 [.slice a1 n2 c3] 29] ∧ KLe K K22) h19 ⟨K, rfl, hS8, (KLe.refl _)⟩ ⟨rfl, rfl, rfl, rfl, trivial⟩ ?_ ?_
    · rintro i21 s17 _ w24 r26 hi27 h28 hx29 ⟨K22, rfl, hS25, hl23⟩
      refine wc_seq (wc_region ?_)
      refine wl_val wn rfl (rv_lss rfl rfl) ?_
      refine wl_nil (qe_seq (wc_seq ?_))
      refine wc_cond_t rfl (decide_eq_true (by omega)) (wc_skip (qe_seq (wc_seq ?_)))
      refine wc_block ?_
      refine wc_seq ?_
      refine wc_region ?_
      refine wl_val wn rfl (rv_move rfl) ?_
      obtain ⟨x30, hx31, h32⟩ := Option.bind_eq_some_iff.1 h28
      refine wl_indexAddr (t := tGFile) wn rfl Try.underlying27 tf85 rfl rfl (SliceAt.mono hl23 hs4) hx31 ?_
      intro b33 o34 u35 hu36 ha37
      obtain ⟨rfl, hl38, hl39⟩ := hu36
      have ha40 : AtK _ b33 o34 [sv x30.Name, sv x30.Text] := ha37
      refine wl_val wn rfl (rv_loadS (cs := [sv x30.Name, sv x30.Text]) tf85 rfl hS25 ha40 rfl) ?_
      refine wl_alloc wn rfl tf85 hS25 ?_
      intro g41 w42 hS43
      have hS44 : SH _ _ _ _ _ [obj g41 [sv [], sv []] 85, _] := hS43
      refine wl_val wn rfl (rv_assign rfl) ?_
      refine wl_store (cs' := [sv x30.Name, sv x30.Text]) (v := .agg #[sv x30.Name, sv x30.Text]) wn tf85 rfl rfl rfl (by simp [Value.cells, Value.oneCell', sv]) hS44 rfl rfl ?_
      intro w45 hS46
      refine wl_nil ?_
      refine qe_seq ?_
      refine wc_seq ?_
      obtain ⟨o47, h48, h49⟩ := Option.bind_eq_some_iff.1 h32
      refine wc_cutg (fun E' w' => ∃ (K50 : KMap), E' = [(1, .pointer (some ⟨g5, 0, none⟩)), (6, .slice a1 n2 c3), (7, .int .i64 (p0_d.Files.length : Int)), (8, .int .i64 ((i21 : Nat) : Int)), (32, .bool o47)] ∧ SH w K [] w' K50 [obj g5 [.slice a1 n2 c3] 29] ∧ KLe K22 K50) ?_ ?_
      · refine wc_quiet mixed (by kernel_rfl) hS46 ?_
        refine wq_val wn rfl (fun _ _ => (rv_fieldAddr ff85_0 rfl)) ?_
        refine wq_val wn rfl (rq_loadm1 tf9 rfl (.head _) rfl) ?_
        obtain ⟨r54, hx55, h56⟩ := Option.bind_eq_some_iff.1 h48
        refine wq_call (v := .bool r54) wn rfl (fun _ => rt_call (vs := [sv x30.Name]) co52 rfl) (fun w59 ⟨K57, hS58, hl60⟩ => ((ok_impl_WordOk F) hS58.enter0 hl38 hx55).mono fun e w' ⟨K', he, hS'⟩ => ⟨he, K', hS58.call0 hS', hl60.trans hS'.le⟩) ?_
        refine wq_val wn rfl (fun _ _ => (rv_not rfl)) ?_
        refine wq_val wn rfl (fun _ _ => (rv_move rfl)) ?_
        rcases bool_tf ((!r54)) with hb61 | hb61
        · have h62 := cond_t hb61 h56
          refine wq_un (ug rfl rfl hb61) rfl ?_
          refine wq_un (ug rfl rfl hb61) rfl ?_
          refine wq_un (ug rfl rfl hb61) rfl ?_
          refine wq_un (uu rfl rfl) rfl ?_
          refine wq_un (uu rfl rfl) rfl ?_
          refine wq_un (uu rfl rfl) rfl ?_
          refine wq_un (uu rfl rfl) rfl ?_
          refine wq_un (uu rfl rfl) rfl ?_
          refine wq_un (uu rfl rfl) rfl ?_
          refine wq_un (uu rfl rfl) rfl ?_
          refine wq_un (uu rfl rfl) rfl ?_
          refine wq_un (uu rfl rfl) rfl ?_
          refine wq_un (uu rfl rfl) rfl ?_
          refine wq_un (ug rfl rfl hb61) rfl ?_
          refine wq_val wn rfl (fun _ _ => (rv_pick_t (v := .bool true) rfl hb61 rfl)) ?_
          refine wq_nil ?_
          rintro w64 ⟨K63, hS65, hl66⟩
          obtain rfl := Option.some.inj h62
          have hS67 : SH _ _ _ _ _ [_] := SH.sublist hS65 (.cons _ (.cons_cons _ .slnil))
          exact qe_mid' ⟨K63, rfl, hS67, hl66⟩ ⟨rfl, rfl, rfl, rfl, rfl, trivial⟩
        · have h62 := cond_f hb61 h56
          refine wq_val (wg rfl rfl hb61) rfl (fun _ _ => (rv_move rfl)) ?_
          refine wq_val (wg rfl rfl hb61) rfl (fun _ _ => (rv_gtr rfl rfl)) ?_
          refine wq_val (wg rfl rfl hb61) rfl (fun _ _ => (rv_move rfl)) ?_
          rcases bool_tf (decide ((0 : Int) < ((i21 : Nat) : Int))) with hb68 | hb68
          · have h69 := cond_t hb68 h62
            refine wq_val (wg rfl rfl hb68) rfl (fun _ _ => (rv_fieldAddr ff29_0 rfl)) ?_
            refine wq_val (wg rfl rfl hb68) rfl (rq_loadm1 tf27 rfl (.tail _ (.head _)) rfl) ?_
            refine wq_val (wg rfl rfl hb68) rfl (fun _ _ => (rv_move rfl)) ?_
            refine wq_val (wg rfl rfl hb68) rfl (fun _ _ => (rv_sub rfl rfl)) ?_
            obtain ⟨x70, hx71, h72⟩ := Option.bind_eq_some_iff.1 h69
            refine wq_indexAddr (t := tGFile) (wg rfl rfl hb68) rfl Try.underlying27 tf85 rfl rfl (SliceAt.mono hl23 hs4) hx71 ?_
            intro b73 o74 u75 hu76 ha77
            obtain ⟨rfl, hl78, hl79⟩ := hu76
            have ha80 : AtK _ b73 o74 [sv x70.Name, sv x70.Text] := ha77
            refine wq_val (wg rfl rfl hb68) rfl (fun _ _ => (rv_fieldAddr ff85_0 rfl)) ?_
            refine wq_val (wg rfl rfl hb68) rfl (rq_load1 tf9 rfl (ha80 0 _ rfl)) ?_
            refine wq_val (wg rfl rfl hb68) rfl (fun _ _ => (rv_fieldAddr ff85_0 rfl)) ?_
            refine wq_val (wg rfl rfl hb68) rfl (rq_loadm1 tf9 rfl (.head _) rfl) ?_
            refine wq_val (wg rfl rfl hb68) rfl (fun _ _ => (rv_sgeq rfl rfl)) ?_
            refine wq_val (wg rfl rfl hb61) rfl (fun _ _ => (rv_pick_t rfl hb68 rfl)) ?_
            refine wq_val wn rfl (fun _ _ => (rv_pick_f rfl hb61 rfl)) ?_
            refine wq_nil ?_
            rintro w82 ⟨K81, hS83, hl84⟩
            obtain rfl := Option.some.inj h72
            have hS85 : SH _ _ _ _ _ [_] := SH.sublist hS83 (.cons _ (.cons_cons _ .slnil))
            exact qe_mid' ⟨K81, rfl, hS85, hl84⟩ ⟨rfl, rfl, rfl, rfl, rfl, trivial⟩
          · have h69 := cond_f hb68 h62
            refine wq_un (ug rfl rfl hb68) rfl ?_
            refine wq_un (ug rfl rfl hb68) rfl ?_
            refine wq_un (ug rfl rfl hb68) rfl ?_
            refine wq_un (ug rfl rfl hb68) rfl ?_
            refine wq_un (ug rfl rfl hb68) rfl ?_
            refine wq_un (ug rfl rfl hb68) rfl ?_
            refine wq_un (ug rfl rfl hb68) rfl ?_
            refine wq_un (ug rfl rfl hb68) rfl ?_
            refine wq_un (ug rfl rfl hb68) rfl ?_
            refine wq_un (ug rfl rfl hb68) rfl ?_
            refine wq_val (wg rfl rfl hb61) rfl (fun _ _ => (rv_pick_f (v := .bool false) rfl hb68 rfl)) ?_
            refine wq_val wn rfl (fun _ _ => (rv_pick_f rfl hb61 rfl)) ?_
            refine wq_nil ?_
            rintro w87 ⟨K86, hS88, hl89⟩
            obtain rfl := Option.some.inj h69
            have hS90 : SH _ _ _ _ _ [_] := SH.sublist hS88 (.cons _ (.cons_cons _ .slnil))
            exact qe_mid' ⟨K86, rfl, hS90, hl89⟩ ⟨rfl, rfl, rfl, rfl, rfl, trivial⟩
      · rintro _ w52 ⟨K50, rfl, hS53, hl51⟩
        refine qe_seq ?_
        refine wc_cond rfl (fun hb91 => ?_) (fun hb91 => ?_)
        · have h92 := cond_t hb91 h49
          refine wc_seq ?_
          refine wc_region ?_
          refine wl_val wn rfl (rv_assign (v := .bool false) rfl) ?_
          refine wl_nil ?_
          refine qe_seq ?_
          refine wc_ret ?_
          refine qe_block_ret ?_
          refine qe_then_ret ?_
          refine qe_then_ret ?_
          obtain rfl := Option.some.inj h92
          have e93 := hx29 _ rfl
          subst e93
          refine qe_block_ret ?_
          refine qe_then_ret ?_
          obtain rfl := Option.some.inj h20
          refine qe_then_ret ?_
          obtain rfl := Option.some.inj h11
          have hS94 : SH _ _ _ _ _ [] := SH.sublist hS53 (.cons _ .slnil)
          exact qe_ret (vs := [_]) Try.results12 ⟨rfl, trivial⟩ ⟨K50, rfl, hS94⟩
        · have h92 := cond_f hb91 h49
          refine wc_skip ?_
          refine qe_block ?_
          refine qe_seq (wc_region ?_)
          refine wl_val wn rfl (rv_add_to rfl rfl (w64_succ hi27 (SliceAt.max hs4))) ?_
          refine wl_val wn rfl (rv_move rfl) ?_
          refine wl_nil ?_
          obtain rfl := Option.some.inj h92
          exact qe_mid' ⟨_, rfl, K50, rfl, hS53, (hl23.trans hl51)⟩ ⟨rfl, rfl, rfl, rfl, trivial⟩
    · rintro s17 _ w24 hr95 ⟨K22, rfl, hS25, hl23⟩
      subst hr95
      refine wc_seq (wc_region ?_)
      refine wl_val wn rfl (rv_lss rfl rfl) ?_
      refine wl_nil (qe_seq (wc_seq ?_))
      refine wc_cond_f rfl (decide_eq_false (by omega)) ?_
      refine wc_exit ?_
      refine qe_then_exit ?_
      refine qe_then_exit ?_
      refine qe_block_eq ?_
      obtain rfl := Option.some.inj h20
      exact qe_mid' ⟨_, K22, rfl, rfl, hS25, hl23⟩ ⟨rfl, trivial⟩
  · rintro _ w15 ⟨s12, K13, rfl, rfl, hS16, hl14⟩
    refine qe_seq ?_
    refine wc_seq ?_
    refine wc_region ?_
    refine wl_val wn rfl (rv_fieldAddr ff29_0 rfl) ?_
    refine wl_val wn rfl (rv_loadm1 tf27 rfl (.head _) hS16 rfl) ?_
    refine wl_val wn rfl (rv_len (t := tGFile) Try.underlying27 rfl (SliceAt.mono hl14 hs4)) ?_
    refine wl_val wn rfl (rv_leq rfl rfl) ?_
    refine wl_val wn rfl (rv_assign rfl) ?_
    refine wl_nil ?_
    refine qe_seq ?_
    refine wc_ret ?_
    obtain rfl := Option.some.inj h11
    have hS97 : SH _ _ _ _ _ [] := SH.sublist hS16 (.cons _ .slnil)
    exact qe_ret (vs := [_]) Try.results12 ⟨rfl, trivial⟩ ⟨K13, rfl, hS97⟩

theorem ok_laws_eqFile (F : Nat) {w : World} {K : KMap} {p0_a : GFile} {p1_b : GFile} {r : Bool} (hS : SH w K [] w K []) (hl1 : p0_a.Name.length ≤ maxLen) (hl2 : p0_a.Text.length ≤ maxLen) (hl3 : p1_b.Name.length ≤ maxLen) (hl4 : p1_b.Text.length ≤ maxLen) (hm : M.laws_eqFile F p0_a p1_b = some r) :
    Calls Try.prog 99 #[.agg #[sv p0_a.Name, sv p0_a.Text], .agg #[sv p1_b.Name, sv p1_b.Text]] w fun e w' => ∃ (K' : KMap), e = .returned (.bool r) ∧ SH w K [] w' K' [] := by
  rw [M.laws_eqFile] at hm
  refine calls_in Try.func99 rfl Try.ntmps99 rfl ?_
  refine wc_seq ?_
  refine wc_region ?_
  refine wl_box wn rfl rfl hS ?_
  intro g5 w6 hS7
  have hS8 : SH _ _ _ _ _ [obj g5 [sv p0_a.Name, sv p0_a.Text] 85] := hS7
  refine wl_box wn rfl rfl hS8 ?_
  intro g9 w10 hS11
  have hS12 : SH _ _ _ _ _ [obj g9 [sv p1_b.Name, sv p1_b.Text] 85, _] := hS11
  refine wl_val wn rfl (rv_assign (v := .bool false) rfl) ?_
  refine wl_nil ?_
  refine qe_seq ?_
  refine wc_seq ?_
  refine wc_seq ?_
  refine wc_region ?_
  refine wl_val wn rfl (rv_fieldAddr ff85_0 rfl) ?_
  refine wl_val wn rfl (rv_loadm1 tf9 rfl (.tail _ (.head _)) hS12 rfl) ?_
  refine wl_val wn rfl (rv_fieldAddr ff85_0 rfl) ?_
  refine wl_val wn rfl (rv_loadm1 tf9 rfl (.head _) hS12 rfl) ?_
  refine wl_val wn rfl (rv_sneq rfl rfl) ?_
  refine wl_nil ?_
  refine qe_seq ?_
  refine wc_cond rfl (fun hb13 => ?_) (fun hb13 => ?_)
  · have h14 := cond_t hb13 hm
    refine wc_seq ?_
    refine wc_region ?_
    refine wl_val wn rfl (rv_assign (v := .bool false) rfl) ?_
    refine wl_nil ?_
    refine qe_seq ?_
    refine wc_ret ?_
    refine qe_then_ret ?_
    obtain rfl := Option.some.inj h14
    have hS15 : SH _ _ _ _ _ [] := SH.sublist hS12 (.cons _ (.cons _ .slnil))
    exact qe_ret (vs := [_]) Try.results99 ⟨rfl, trivial⟩ ⟨K, rfl, hS15⟩
  · have h14 := cond_f hb13 hm
    refine wc_skip ?_
    refine qe_seq ?_
    refine wc_seq ?_
    refine wc_seq ?_
    refine wc_region ?_
    refine wl_val wn rfl (rv_fieldAddr ff85_1 rfl) ?_
    refine wl_val wn rfl (rv_loadm1 tf9 rfl (.tail _ (.head _)) hS12 rfl) ?_
    refine wl_val wn rfl (rv_fieldAddr ff85_1 rfl) ?_
    refine wl_val wn rfl (rv_loadm1 tf9 rfl (.head _) hS12 rfl) ?_
    refine wl_val wn rfl (rv_sneq rfl rfl) ?_
    refine wl_nil ?_
    refine qe_seq ?_
    refine wc_cond rfl (fun hb16 => ?_) (fun hb16 => ?_)
    · have h17 := cond_t hb16 h14
      refine wc_seq ?_
      refine wc_region ?_
      refine wl_val wn rfl (rv_assign (v := .bool false) rfl) ?_
      refine wl_nil ?_
      refine qe_seq ?_
      refine wc_ret ?_
      refine qe_then_ret ?_
      obtain rfl := Option.some.inj h17
      have hS18 : SH _ _ _ _ _ [] := SH.sublist hS12 (.cons _ (.cons _ .slnil))
      exact qe_ret (vs := [_]) Try.results99 ⟨rfl, trivial⟩ ⟨K, rfl, hS18⟩
    · have h17 := cond_f hb16 h14
      refine wc_skip ?_
      refine qe_seq ?_
      refine wc_seq ?_
      refine wc_region ?_
      refine wl_val wn rfl (rv_assign (v := .bool true) rfl) ?_
      refine wl_nil ?_
      refine qe_seq ?_
      refine wc_ret ?_
      obtain rfl := Option.some.inj h17
      have hS19 : SH _ _ _ _ _ [] := SH.sublist hS12 (.cons _ (.cons _ .slnil))
      exact qe_ret (vs := [_]) Try.results99 ⟨rfl, trivial⟩ ⟨K, rfl, hS19⟩
end Go.Proofs.Ytajfhpaokbgmeaa
