/-
  Walks of the functions. Printed by gen.py.
-/
import Derived.Test.YtajfhpaokbgmeaaWalkA0
set_option linter.unusedVariables false
set_option maxRecDepth 100000
namespace Go.Proofs.Ytajfhpaokbgmeaa
open Go Go.Fk Go.RowKit

theorem ok_impl_hasDoc_1 (F : Nat) {w : World} {K : KMap} {g3 : Nat} {p0_h : GHit} {p1_x : Int} {r : Bool} (hS : SH w K (List.filterMap Item.g [obj g3 [.int .i64 p1_x] 3]) w K [obj g3 [.int .i64 p1_x] 3]) (hr1 : rng64 p0_h.Doc) (hr2 : rng64 p0_h.Points) (hr4 : rng64 p1_x) (hm : M.impl_hasDoc_1 F p0_h p1_x = some r) :
    Calls Try.prog 119 #[.agg #[.int .i64 p0_h.Doc, .int .i64 p0_h.Points], .pointer (some ⟨g3, 0, none⟩)] w fun e w' => ∃ (K' : KMap), e = .returned (.bool r) ∧ SH w K (List.filterMap Item.g [obj g3 [.int .i64 p1_x] 3]) w' K' [obj g3 [.int .i64 p1_x] 3] := by
  rw [M.impl_hasDoc_1] at hm
  refine calls_in Try.func119 rfl Try.ntmps119 rfl ?_
  refine wc_seq ?_
  refine wc_region ?_
  refine wl_box wn rfl rfl hS ?_
  intro g5 w6 hS7
  have hS8 : SH _ _ _ _ _ [obj g5 [.int .i64 p0_h.Doc, .int .i64 p0_h.Points] 72, _] := hS7
  refine wl_val wn rfl (rv_assign (v := .bool false) rfl) ?_
  refine wl_nil ?_
  refine qe_seq ?_
  refine wc_seq ?_
  refine wc_region ?_
  refine wl_val wn rfl (rv_fieldAddr ff72_0 rfl) ?_
  refine wl_val wn rfl (rv_loadm1 tf3 rfl (.head _) hS8 rfl) ?_
  refine wl_val wn rfl (rv_loadm1 tf3 rfl (.tail _ (.head _)) hS8 rfl) ?_
  refine wl_val wn rfl (rv_eql rfl rfl) ?_
  refine wl_val wn rfl (rv_assign rfl) ?_
  refine wl_nil ?_
  refine qe_seq ?_
  refine wc_ret ?_
  obtain rfl := Option.some.inj hm
  have hS9 : SH _ _ _ _ _ [_] := SH.sublist hS8 (.cons _ (.cons_cons _ .slnil))
  exact qe_ret (vs := [_]) Try.results119 ⟨rfl, trivial⟩ ⟨K, rfl, hS9⟩

theorem ok_slices_IndexFunc_Hit__impl_hasDoc_1 (F : Nat) {w : World} {K : KMap} {a1 : Option Addr} {n2 c3 : Nat} {g5 : Nat} {p0_s : List GHit} {p1_f_c0 : Int} {r : Int} (hS : SH w K (List.filterMap Item.g [obj g5 [.int .i64 p1_f_c0] 3]) w K [obj g5 [.int .i64 p1_f_c0] 3]) (hs4 : SliceAt tGHit K a1 n2 c3 p0_s) (hr6 : rng64 p1_f_c0) (hm : M.slices_IndexFunc_Hit__impl_hasDoc_1 F p0_s p1_f_c0 = some r) :
    Calls Try.prog 137 #[.slice a1 n2 c3, .func (.func 119) #[] #[.pointer (some ⟨g5, 0, none⟩)]] w fun e w' => ∃ (K' : KMap), e = .returned (.int .i64 r) ∧ SH w K (List.filterMap Item.g [obj g5 [.int .i64 p1_f_c0] 3]) w' K' [obj g5 [.int .i64 p1_f_c0] 3] ∧ rng64 r := by
  rw [M.slices_IndexFunc_Hit__impl_hasDoc_1] at hm
  refine calls_in Try.func137 rfl Try.ntmps137 rfl ?_
  refine wc_seq ?_
  refine wc_region ?_
  refine wl_val wn rfl (rv_assign (v := .int .i64 0) rfl) ?_
  refine wl_nil ?_
  refine qe_seq ?_
  refine wc_seq ?_
  refine wc_seq ?_
  refine wc_region ?_
  refine wl_val wn rfl (rv_move rfl) ?_
  refine wl_val wn rfl (rv_len (t := tGHit) Try.underlying68 rfl hs4) ?_
  refine wl_val wn rfl (rv_move (v := .int .i64 0) rfl) ?_
  refine wl_nil ?_
  refine qe_seq ?_
  obtain ⟨o7, h8, h9⟩ := Option.bind_eq_some_iff.1 hm
  refine wc_cutg (fun E' w' => ∃ (s10 : Unit) (K11 : KMap), o7 = .inl s10 ∧ E' = [] ∧ SH w K (List.filterMap Item.g [obj g5 [.int .i64 p1_f_c0] 3]) w' K11 [obj g5 [.int .i64 p1_f_c0] 3] ∧ KLe K K11) ?_ ?_
  · refine wc_block ?_
    obtain ⟨r16, h17, h18⟩ := Option.bind_eq_some_iff.1 h8
    refine wc_for' (fun (i19 : Nat) (s15 : Unit) E' w' => ∃ (K20 : KMap), E' = [(0, .slice a1 n2 c3), (1, .func (.func 119) #[] #[.pointer (some ⟨g5, 0, none⟩)]), (7, .int .i64 (p0_s.length : Int)), (8, .int .i64 ((i19 : Nat) : Int))] ∧ SH w K (List.filterMap Item.g [obj g5 [.int .i64 p1_f_c0] 3]) w' K20 [obj g5 [.int .i64 p1_f_c0] 3] ∧ KLe K K20) h17 ⟨K, rfl, hS, (KLe.refl _)⟩ ⟨rfl, rfl, rfl, rfl, trivial⟩ ?_ ?_
    · rintro i19 s15 _ w22 r24 hi25 h26 hx27 ⟨K20, rfl, hS23, hl21⟩
      refine wc_seq (wc_region ?_)
      refine wl_val wn rfl (rv_lss rfl rfl) ?_
      refine wl_nil (qe_seq (wc_seq ?_))
      refine wc_cond_t rfl (decide_eq_true (by omega)) (wc_skip (qe_seq (wc_seq ?_)))
      refine wc_block ?_
      refine wc_seq ?_
      refine wc_region ?_
      refine wl_val wn rfl (rv_move rfl) ?_
      refine wl_val wn rfl (rv_assign rfl) ?_
      refine wl_nil ?_
      refine qe_seq ?_
      refine wc_seq ?_
      refine wc_region ?_
      refine wl_val wn rfl (rv_move rfl) ?_
      refine wl_val wn rfl (rv_move rfl) ?_
      refine wl_val wn rfl (rv_move rfl) ?_
      obtain ⟨x28, hx29, h30⟩ := Option.bind_eq_some_iff.1 h26
      refine wl_indexAddr (t := tGHit) wn rfl Try.underlying68 tf72 rfl rfl (SliceAt.mono hl21 hs4) hx29 ?_
      intro b31 o32 u33 hu34 ha35
      obtain ⟨rfl, hr36, hr37⟩ := hu34
      have ha38 : AtK _ b31 o32 [.int .i64 x28.Doc, .int .i64 x28.Points] := ha35
      refine wl_val wn rfl (rv_loadS (cs := [.int .i64 x28.Doc, .int .i64 x28.Points]) tf72 rfl hS23 ha38 rfl) ?_
      obtain ⟨r39, hx40, h41⟩ := Option.bind_eq_some_iff.1 h30
      refine wl_call wn rfl (rt_callv (vs := [.agg #[.int .i64 x28.Doc, .int .i64 x28.Points]]) (cap := #[.pointer (some ⟨g5, 0, none⟩)]) co119 rfl rfl) ((ok_impl_hasDoc_1 F) (SH.enter (Lin := [_]) hS23) hr36 hr37 hr6 hx40) ?_
      rintro e45 w43 ⟨K42, rfl, hS44⟩
      refine ⟨_, rfl, ?_⟩
      have hS46 : SH _ _ _ _ _ [_] := SH.call (Lin := [_]) hS23 hS44
      refine wl_nil ?_
      refine qe_seq ?_
      refine wc_cond rfl (fun hb47 => ?_) (fun hb47 => ?_)
      · have h48 := cond_t hb47 h41
        refine wc_seq ?_
        refine wc_region ?_
        refine wl_val wn rfl (rv_move rfl) ?_
        refine wl_val wn rfl (rv_assign rfl) ?_
        refine wl_nil ?_
        refine qe_seq ?_
        refine wc_ret ?_
        refine qe_block_ret ?_
        refine qe_then_ret ?_
        refine qe_then_ret ?_
        obtain rfl := Option.some.inj h48
        have e49 := hx27 _ rfl
        subst e49
        refine qe_block_ret ?_
        refine qe_then_ret ?_
        obtain rfl := Option.some.inj h18
        refine qe_then_ret ?_
        obtain rfl := Option.some.inj h9
        exact qe_ret (vs := [_]) Try.results137 ⟨rfl, trivial⟩ ⟨K42, rfl, hS46, (rng_idx hi25 (SliceAt.max hs4))⟩
      · have h48 := cond_f hb47 h41
        refine wc_skip ?_
        refine qe_block ?_
        refine qe_seq (wc_region ?_)
        refine wl_val wn rfl (rv_add_to rfl rfl (w64_succ hi25 (SliceAt.max hs4))) ?_
        refine wl_val wn rfl (rv_move rfl) ?_
        refine wl_nil ?_
        obtain rfl := Option.some.inj h48
        exact qe_mid' ⟨_, rfl, K42, rfl, hS46, (hl21.trans hS44.le)⟩ ⟨rfl, rfl, rfl, rfl, trivial⟩
    · rintro s15 _ w22 hr50 ⟨K20, rfl, hS23, hl21⟩
      subst hr50
      refine wc_seq (wc_region ?_)
      refine wl_val wn rfl (rv_lss rfl rfl) ?_
      refine wl_nil (qe_seq (wc_seq ?_))
      refine wc_cond_f rfl (decide_eq_false (by omega)) ?_
      refine wc_exit ?_
      refine qe_then_exit ?_
      refine qe_then_exit ?_
      refine qe_block_eq ?_
      obtain rfl := Option.some.inj h18
      exact qe_mid' ⟨_, K20, rfl, rfl, hS23, hl21⟩ trivial
  · rintro _ w13 ⟨s10, K11, rfl, rfl, hS14, hl12⟩
    refine qe_seq ?_
    refine wc_seq ?_
    refine wc_region ?_
    refine wl_val wn rfl (rv_assign (v := .int .i64 (-1)) rfl) ?_
    refine wl_nil ?_
    refine qe_seq ?_
    refine wc_ret ?_
    obtain rfl := Option.some.inj h9
    exact qe_ret (vs := [_]) Try.results137 ⟨rfl, trivial⟩ ⟨K11, rfl, hS14, (by decide : rng64 (-1))⟩

theorem ok_slices_ContainsFunc_Hit__impl_hasDoc_1 (F : Nat) {w : World} {K : KMap} {a1 : Option Addr} {n2 c3 : Nat} {g5 : Nat} {p0_s : List GHit} {p1_f_c0 : Int} {r : Bool} (hS : SH w K (List.filterMap Item.g [obj g5 [.int .i64 p1_f_c0] 3]) w K [obj g5 [.int .i64 p1_f_c0] 3]) (hs4 : SliceAt tGHit K a1 n2 c3 p0_s) (hr6 : rng64 p1_f_c0) (hm : M.slices_ContainsFunc_Hit__impl_hasDoc_1 F p0_s p1_f_c0 = some r) :
    Calls Try.prog 118 #[.slice a1 n2 c3, .func (.func 119) #[] #[.pointer (some ⟨g5, 0, none⟩)]] w fun e w' => ∃ (K' : KMap), e = .returned (.bool r) ∧ SH w K (List.filterMap Item.g [obj g5 [.int .i64 p1_f_c0] 3]) w' K' [obj g5 [.int .i64 p1_f_c0] 3] := by
  rw [M.slices_ContainsFunc_Hit__impl_hasDoc_1] at hm
  refine calls_in Try.func118 rfl Try.ntmps118 rfl ?_
  refine wc_seq ?_
  refine wc_region ?_
  refine wl_val wn rfl (rv_assign (v := .bool false) rfl) ?_
  refine wl_nil ?_
  refine qe_seq ?_
  refine wc_seq ?_
  refine wc_region ?_
  refine wl_val wn rfl (rv_move rfl) ?_
  refine wl_val wn rfl (rv_move rfl) ?_
  obtain ⟨r7, hx8, h9⟩ := Option.bind_eq_some_iff.1 hm
  refine wl_call wn rfl (rt_call (vs := [.slice a1 n2 c3, .func (.func 119) #[] #[.pointer (some ⟨g5, 0, none⟩)]]) co137 rfl) ((ok_slices_IndexFunc_Hit__impl_hasDoc_1 F) (SH.enter (Lin := [_]) hS) hs4 hr6 hx8) ?_
  rintro e14 w11 ⟨K10, rfl, hS12, hr13⟩
  refine ⟨_, rfl, ?_⟩
  have hS15 : SH _ _ _ _ _ [_] := SH.call (Lin := [_]) hS hS12
  refine wl_val wn rfl (rv_geq rfl rfl) ?_
  refine wl_val wn rfl (rv_assign rfl) ?_
  refine wl_nil ?_
  refine qe_seq ?_
  refine wc_ret ?_
  obtain rfl := Option.some.inj h9
  exact qe_ret (vs := [_]) Try.results118 ⟨rfl, trivial⟩ ⟨K10, rfl, hS15⟩

theorem ok_impl_hasDoc (F : Nat) {w : World} {K : KMap} {a1 : Option Addr} {n2 c3 : Nat} {p0_list : List GHit} {p1_id : Int} {r : Bool} (hS : SH w K [] w K []) (hs4 : SliceAt tGHit K a1 n2 c3 p0_list) (hr5 : rng64 p1_id) (hm : M.impl_hasDoc F p0_list p1_id = some r) :
    Calls Try.prog 86 #[.slice a1 n2 c3, .int .i64 p1_id] w fun e w' => ∃ (K' : KMap), e = .returned (.bool r) ∧ SH w K [] w' K' [] := by
  rw [M.impl_hasDoc] at hm
  refine calls_in Try.func86 rfl Try.ntmps86 rfl ?_
  refine wc_seq ?_
  refine wc_region ?_
  refine wl_box wn rfl rfl hS ?_
  intro g6 w7 hS8
  have hS9 : SH _ _ _ _ _ [obj g6 [.int .i64 p1_id] 3] := hS8
  refine wl_val wn rfl (rv_assign (v := .bool false) rfl) ?_
  refine wl_nil ?_
  refine qe_seq ?_
  refine wc_seq ?_
  refine wc_region ?_
  refine wl_val wn rfl (rv_move rfl) ?_
  refine wl_val wn rfl (rv_makeFunc (vs := [.pointer (some ⟨g6, 0, none⟩)]) rfl) ?_
  obtain ⟨r10, hx11, h12⟩ := Option.bind_eq_some_iff.1 hm
  refine wl_call wn rfl (rt_call (vs := [.slice a1 n2 c3, .func (.func 119) #[] #[.pointer (some ⟨g6, 0, none⟩)]]) co118 rfl) ((ok_slices_ContainsFunc_Hit__impl_hasDoc_1 F) (SH.enter (Lin := [_]) hS9) hs4 hr5 hx11) ?_
  rintro e16 w14 ⟨K13, rfl, hS15⟩
  refine ⟨_, rfl, ?_⟩
  have hS17 : SH _ _ _ _ _ [_] := SH.call (Lin := [_]) hS9 hS15
  refine wl_val wn rfl (rv_assign rfl) ?_
  refine wl_nil ?_
  refine qe_seq ?_
  refine wc_ret ?_
  obtain rfl := Option.some.inj h12
  have hS18 : SH _ _ _ _ _ [] := SH.sublist hS17 (.cons _ .slnil)
  exact qe_ret (vs := [_]) Try.results86 ⟨rfl, trivial⟩ ⟨K13, rfl, hS18⟩

theorem ok_cmp_Or_int (F : Nat) {w : World} {K : KMap} {a1 : Option Addr} {n2 c3 : Nat} {p0_vals : List Int} {r : Int} (hS : SH w K [] w K []) (hs4 : SliceAt tInt K a1 n2 c3 p0_vals) (hm : M.cmp_Or_int F p0_vals = some r) :
    Calls Try.prog 122 #[.slice a1 n2 c3] w fun e w' => ∃ (K' : KMap), e = .returned (.int .i64 r) ∧ SH w K [] w' K' [] ∧ rng64 r := by
  rw [M.cmp_Or_int] at hm
  refine calls_in Try.func122 rfl Try.ntmps122 rfl ?_
  refine wc_seq ?_
  refine wc_region ?_
  refine wl_val wn rfl (rv_assign (v := .int .i64 0) rfl) ?_
  refine wl_nil ?_
  refine qe_seq ?_
  refine wc_seq ?_
  refine wc_region ?_
  refine wl_val wn rfl (rv_assign (v := .int .i64 0) rfl) ?_
  refine wl_nil ?_
  refine qe_seq ?_
  refine wc_seq ?_
  refine wc_seq ?_
  refine wc_region ?_
  refine wl_val wn rfl (rv_move rfl) ?_
  refine wl_val wn rfl (rv_len (t := tInt) Try.underlying120 rfl hs4) ?_
  refine wl_val wn rfl (rv_move (v := .int .i64 0) rfl) ?_
  refine wl_nil ?_
  refine qe_seq ?_
  obtain ⟨o5, h6, h7⟩ := Option.bind_eq_some_iff.1 hm
  refine wc_cutg (fun E' w' => ∃ (s8 : Unit) (K9 : KMap), o5 = .inl s8 ∧ E' = [(3, .int .i64 0)] ∧ SH w K [] w' K9 [] ∧ KLe K K9) ?_ ?_
  · refine wc_block ?_
    obtain ⟨r14, h15, h16⟩ := Option.bind_eq_some_iff.1 h6
    refine wc_for' (fun (i17 : Nat) (s13 : Unit) E' w' => ∃ (K18 : KMap), E' = [(3, .int .i64 0), (6, .slice a1 n2 c3), (7, .int .i64 (p0_vals.length : Int)), (8, .int .i64 ((i17 : Nat) : Int))] ∧ SH w K [] w' K18 [] ∧ KLe K K18) h15 ⟨K, rfl, hS, (KLe.refl _)⟩ ⟨rfl, rfl, rfl, rfl, trivial⟩ ?_ ?_
    · rintro i17 s13 _ w20 r22 hi23 h24 hx25 ⟨K18, rfl, hS21, hl19⟩
      refine wc_seq (wc_region ?_)
      refine wl_val wn rfl (rv_lss rfl rfl) ?_
      refine wl_nil (qe_seq (wc_seq ?_))
      refine wc_cond_t rfl (decide_eq_true (by omega)) (wc_skip (qe_seq (wc_seq ?_)))
      refine wc_block ?_
      refine wc_seq ?_
      refine wc_region ?_
      obtain ⟨x26, hx27, h28⟩ := Option.bind_eq_some_iff.1 h24
      refine wl_indexAddr (t := tInt) wn rfl Try.underlying120 tf3 rfl rfl (SliceAt.mono hl19 hs4) hx27 ?_
      intro b29 o30 u31 hu32 ha33
      obtain ⟨rfl, hr34⟩ := hu32
      have ha35 : AtK _ b29 o30 [.int .i64 x26] := ha33
      refine wl_val wn rfl (rv_load1 tf3 rfl hS21 (ha35 0 _ rfl)) ?_
      refine wl_val wn rfl (rv_assign rfl) ?_
      refine wl_nil ?_
      refine qe_seq ?_
      refine wc_seq ?_
      refine wc_region ?_
      refine wl_val wn rfl (rv_move rfl) ?_
      refine wl_val wn rfl (rv_move rfl) ?_
      refine wl_val wn rfl (rv_neq rfl rfl) ?_
      refine wl_nil ?_
      refine qe_seq ?_
      refine wc_cond rfl (fun hb36 => ?_) (fun hb36 => ?_)
      · have h37 := cond_t hb36 h28
        refine wc_seq ?_
        refine wc_region ?_
        refine wl_val wn rfl (rv_move rfl) ?_
        refine wl_val wn rfl (rv_assign rfl) ?_
        refine wl_nil ?_
        refine qe_seq ?_
        refine wc_ret ?_
        refine qe_block_ret ?_
        refine qe_then_ret ?_
        refine qe_then_ret ?_
        obtain rfl := Option.some.inj h37
        have e38 := hx25 _ rfl
        subst e38
        refine qe_block_ret ?_
        refine qe_then_ret ?_
        obtain rfl := Option.some.inj h16
        refine qe_then_ret ?_
        obtain rfl := Option.some.inj h7
        exact qe_ret (vs := [_]) Try.results122 ⟨rfl, trivial⟩ ⟨K18, rfl, hS21, hr34⟩
      · have h37 := cond_f hb36 h28
        refine wc_skip ?_
        refine qe_block ?_
        refine qe_seq (wc_region ?_)
        refine wl_val wn rfl (rv_add_to rfl rfl (w64_succ hi23 (SliceAt.max hs4))) ?_
        refine wl_val wn rfl (rv_move rfl) ?_
        refine wl_nil ?_
        obtain rfl := Option.some.inj h37
        exact qe_mid' ⟨_, rfl, K18, rfl, hS21, hl19⟩ ⟨rfl, rfl, rfl, rfl, trivial⟩
    · rintro s13 _ w20 hr39 ⟨K18, rfl, hS21, hl19⟩
      subst hr39
      refine wc_seq (wc_region ?_)
      refine wl_val wn rfl (rv_lss rfl rfl) ?_
      refine wl_nil (qe_seq (wc_seq ?_))
      refine wc_cond_f rfl (decide_eq_false (by omega)) ?_
      refine wc_exit ?_
      refine qe_then_exit ?_
      refine qe_then_exit ?_
      refine qe_block_eq ?_
      obtain rfl := Option.some.inj h16
      exact qe_mid' ⟨_, K18, rfl, rfl, hS21, hl19⟩ ⟨rfl, trivial⟩
  · rintro _ w11 ⟨s8, K9, rfl, rfl, hS12, hl10⟩
    refine qe_seq ?_
    refine wc_seq ?_
    refine wc_region ?_
    refine wl_val wn rfl (rv_move rfl) ?_
    refine wl_val wn rfl (rv_assign rfl) ?_
    refine wl_nil ?_
    refine qe_seq ?_
    refine wc_ret ?_
    obtain rfl := Option.some.inj h7
    exact qe_ret (vs := [_]) Try.results122 ⟨rfl, trivial⟩ ⟨K9, rfl, hS12, (by decide : rng64 0)⟩

theorem ok_cmp_isNaN_int (F : Nat) {w : World} {K : KMap} {p0_x : Int} {r : Bool} (hS : SH w K [] w K []) (hr1 : rng64 p0_x) (hm : M.cmp_isNaN_int F p0_x = some r) :
    Calls Try.prog 140 #[.int .i64 p0_x] w fun e w' => ∃ (K' : KMap), e = .returned (.bool r) ∧ SH w K [] w' K' [] := by
  rw [M.cmp_isNaN_int] at hm
  refine calls_in Try.func140 rfl Try.ntmps140 rfl ?_
  refine wc_seq ?_
  refine wc_region ?_
  refine wl_val wn rfl (rv_assign (v := .bool false) rfl) ?_
  refine wl_nil ?_
  refine qe_seq ?_
  refine wc_seq ?_
  refine wc_region ?_
  refine wl_val wn rfl (rv_move rfl) ?_
  refine wl_val wn rfl (rv_move rfl) ?_
  refine wl_val wn rfl (rv_neq rfl rfl) ?_
  refine wl_val wn rfl (rv_assign rfl) ?_
  refine wl_nil ?_
  refine qe_seq ?_
  refine wc_ret ?_
  obtain rfl := Option.some.inj hm
  exact qe_ret (vs := [_]) Try.results140 ⟨rfl, trivial⟩ ⟨K, rfl, hS⟩

theorem ok_cmp_Compare_int (F : Nat) {w : World} {K : KMap} {p0_x : Int} {p1_y : Int} {r : Int} (hS : SH w K [] w K []) (hr1 : rng64 p0_x) (hr2 : rng64 p1_y) (hm : M.cmp_Compare_int F p0_x p1_y = some r) :
    Calls Try.prog 123 #[.int .i64 p0_x, .int .i64 p1_y] w fun e w' => ∃ (K' : KMap), e = .returned (.int .i64 r) ∧ SH w K [] w' K' [] ∧ rng64 r := by
  rw [M.cmp_Compare_int] at hm
  refine calls_in Try.func123 rfl Try.ntmps123 rfl ?_
  refine wc_seq ?_
  refine wc_region ?_
  refine wl_val wn rfl (rv_assign (v := .int .i64 0) rfl) ?_
  refine wl_nil ?_
  refine qe_seq ?_
  refine wc_seq ?_
  refine wc_region ?_
  refine wl_val wn rfl (rv_move rfl) ?_
  obtain ⟨r3, hx4, h5⟩ := Option.bind_eq_some_iff.1 hm
  refine wl_call wn rfl (rt_call (vs := [.int .i64 p0_x]) co140 rfl) ((ok_cmp_isNaN_int F) hS.enter0 hr1 hx4) ?_
  rintro e9 w7 ⟨K6, rfl, hS8⟩
  refine ⟨_, rfl, ?_⟩
  have hS10 : SH _ _ _ _ _ [] := SH.call0 hS hS8
  refine wl_val wn rfl (rv_assign rfl) ?_
  refine wl_nil ?_
  refine qe_seq ?_
  refine wc_seq ?_
  refine wc_region ?_
  refine wl_val wn rfl (rv_move rfl) ?_
  obtain ⟨r11, hx12, h13⟩ := Option.bind_eq_some_iff.1 h5
  refine wl_call wn rfl (rt_call (vs := [.int .i64 p1_y]) co140 rfl) ((ok_cmp_isNaN_int F) hS10.enter0 hr2 hx12) ?_
  rintro e17 w15 ⟨K14, rfl, hS16⟩
  refine ⟨_, rfl, ?_⟩
  have hS18 : SH _ _ _ _ _ [] := SH.call0 hS10 hS16
  refine wl_val wn rfl (rv_assign rfl) ?_
  refine wl_nil ?_
  refine qe_seq ?_
  refine wc_seq ?_
  refine wc_seq ?_
  refine wc_region ?_
  refine wl_val wn rfl (rv_move rfl) ?_
  refine wl_nil ?_
  refine qe_seq ?_
  refine wc_cond rfl (fun hb19 => ?_) (fun hb19 => ?_)
  · have h20 := cond_t hb19 h13
    refine wc_seq ?_
    refine wc_seq ?_
    refine wc_region ?_
    refine wl_val wn rfl (rv_move rfl) ?_
    refine wl_nil ?_
    refine qe_seq ?_
    refine wc_cond rfl (fun hb21 => ?_) (fun hb21 => ?_)
    · have h22 := cond_t hb21 h20
      refine wc_seq ?_
      refine wc_region ?_
      refine wl_val wn rfl (rv_assign (v := .int .i64 0) rfl) ?_
      refine wl_nil ?_
      refine qe_seq ?_
      refine wc_ret ?_
      refine qe_then_ret ?_
      refine qe_then_ret ?_
      obtain rfl := Option.some.inj h22
      exact qe_ret (vs := [_]) Try.results123 ⟨rfl, trivial⟩ ⟨K14, rfl, hS18, (by decide : rng64 0)⟩
    · have h22 := cond_f hb21 h20
      refine wc_skip ?_
      refine qe_seq ?_
      refine wc_seq ?_
      refine wc_region ?_
      refine wl_val wn rfl (rv_assign (v := .int .i64 (-1)) rfl) ?_
      refine wl_nil ?_
      refine qe_seq ?_
      refine wc_ret ?_
      refine qe_then_ret ?_
      obtain rfl := Option.some.inj h22
      exact qe_ret (vs := [_]) Try.results123 ⟨rfl, trivial⟩ ⟨K14, rfl, hS18, (by decide : rng64 (-1))⟩
  · have h20 := cond_f hb19 h13
    refine wc_skip ?_
    refine qe_seq ?_
    refine wc_seq ?_
    refine wc_seq ?_
    refine wc_region ?_
    refine wl_val wn rfl (rv_move rfl) ?_
    refine wl_nil ?_
    refine qe_seq ?_
    refine wc_cond rfl (fun hb23 => ?_) (fun hb23 => ?_)
    · have h24 := cond_t hb23 h20
      refine wc_seq ?_
      refine wc_region ?_
      refine wl_val wn rfl (rv_assign (v := .int .i64 1) rfl) ?_
      refine wl_nil ?_
      refine qe_seq ?_
      refine wc_ret ?_
      refine qe_then_ret ?_
      obtain rfl := Option.some.inj h24
      exact qe_ret (vs := [_]) Try.results123 ⟨rfl, trivial⟩ ⟨K14, rfl, hS18, (by decide : rng64 1)⟩
    · have h24 := cond_f hb23 h20
      refine wc_skip ?_
      refine qe_seq ?_
      refine wc_seq ?_
      refine wc_seq ?_
      refine wc_region ?_
      refine wl_val wn rfl (rv_move rfl) ?_
      refine wl_val wn rfl (rv_move rfl) ?_
      refine wl_val wn rfl (rv_lss rfl rfl) ?_
      refine wl_nil ?_
      refine qe_seq ?_
      refine wc_cond rfl (fun hb25 => ?_) (fun hb25 => ?_)
      · have h26 := cond_t hb25 h24
        refine wc_seq ?_
        refine wc_region ?_
        refine wl_val wn rfl (rv_assign (v := .int .i64 (-1)) rfl) ?_
        refine wl_nil ?_
        refine qe_seq ?_
        refine wc_ret ?_
        refine qe_then_ret ?_
        obtain rfl := Option.some.inj h26
        exact qe_ret (vs := [_]) Try.results123 ⟨rfl, trivial⟩ ⟨K14, rfl, hS18, (by decide : rng64 (-1))⟩
      · have h26 := cond_f hb25 h24
        refine wc_skip ?_
        refine qe_seq ?_
        refine wc_seq ?_
        refine wc_seq ?_
        refine wc_region ?_
        refine wl_val wn rfl (rv_move rfl) ?_
        refine wl_val wn rfl (rv_move rfl) ?_
        refine wl_val wn rfl (rv_gtr rfl rfl) ?_
        refine wl_nil ?_
        refine qe_seq ?_
        refine wc_cond rfl (fun hb27 => ?_) (fun hb27 => ?_)
        · have h28 := cond_t hb27 h26
          refine wc_seq ?_
          refine wc_region ?_
          refine wl_val wn rfl (rv_assign (v := .int .i64 1) rfl) ?_
          refine wl_nil ?_
          refine qe_seq ?_
          refine wc_ret ?_
          refine qe_then_ret ?_
          obtain rfl := Option.some.inj h28
          exact qe_ret (vs := [_]) Try.results123 ⟨rfl, trivial⟩ ⟨K14, rfl, hS18, (by decide : rng64 1)⟩
        · have h28 := cond_f hb27 h26
          refine wc_skip ?_
          refine qe_seq ?_
          refine wc_seq ?_
          refine wc_region ?_
          refine wl_val wn rfl (rv_assign (v := .int .i64 0) rfl) ?_
          refine wl_nil ?_
          refine qe_seq ?_
          refine wc_ret ?_
          obtain rfl := Option.some.inj h28
          exact qe_ret (vs := [_]) Try.results123 ⟨rfl, trivial⟩ ⟨K14, rfl, hS18, (by decide : rng64 0)⟩

theorem ok_impl_hitOrder (F : Nat) {w : World} {K : KMap} {p0_a : GHit} {p1_b : GHit} {r : Int} (hS : SH w K [] w K []) (hr1 : rng64 p0_a.Doc) (hr2 : rng64 p0_a.Points) (hr3 : rng64 p1_b.Doc) (hr4 : rng64 p1_b.Points) (hm : M.impl_hitOrder F p0_a p1_b = some r) :
    Calls Try.prog 91 #[.agg #[.int .i64 p0_a.Doc, .int .i64 p0_a.Points], .agg #[.int .i64 p1_b.Doc, .int .i64 p1_b.Points]] w fun e w' => ∃ (K' : KMap), e = .returned (.int .i64 r) ∧ SH w K [] w' K' [] ∧ rng64 r := by
  rw [M.impl_hitOrder] at hm
  refine calls_in Try.func91 rfl Try.ntmps91 rfl ?_
  refine wc_seq ?_
  refine wc_region ?_
  refine wl_box wn rfl rfl hS ?_
  intro g5 w6 hS7
  have hS8 : SH _ _ _ _ _ [obj g5 [.int .i64 p0_a.Doc, .int .i64 p0_a.Points] 72] := hS7
  refine wl_box wn rfl rfl hS8 ?_
  intro g9 w10 hS11
  have hS12 : SH _ _ _ _ _ [obj g9 [.int .i64 p1_b.Doc, .int .i64 p1_b.Points] 72, _] := hS11
  refine wl_val wn rfl (rv_assign (v := .int .i64 0) rfl) ?_
  refine wl_nil ?_
  refine qe_seq ?_
  refine wc_seq ?_
  refine wc_held (fun w' => Holds K w' ∧ HasObj g9 [.int .i64 p1_b.Doc, .int .i64 p1_b.Points] w' ∧ HasObj g5 [.int .i64 p0_a.Doc, .int .i64 p0_a.Points] w') (fun w' => True) 13 [] mixed ?_
  have hS14 := SH.drew hS12
  refine wg_val (i := 0) (listed' := #[true, false, false, false, false, false, false, false, false, false, false, false, false]) (fun _ => True) rfl (by kernel_rfl) (pk_then pk_body) (by kernel_rfl) rfl (by kernel_rfl) (by kernel_rfl) rfl (.inl fun _ _ => trivial) ⟨⟨hS14.hasK (KLe.refl _), hS14.hasObj (.head _), hS14.hasObj (.tail _ (.head _))⟩, (fun _ => trivial), by decide⟩ wn rfl (fun _ _ => (rv_fieldAddr ff72_1 rfl)) ?_
  refine wg_val (i := 1) (listed' := #[true, true, false, false, false, false, false, false, false, false, false, false, false]) (HasObj g9 [.int .i64 p1_b.Doc, .int .i64 p1_b.Points]) rfl (by kernel_rfl) (pk_then pk_body) (by kernel_rfl) rfl (by kernel_rfl) (by kernel_rfl) rfl (.inl fun _ h => h.2.1) ⟨⟨hS14.hasK (KLe.refl _), hS14.hasObj (.head _), hS14.hasObj (.tail _ (.head _))⟩, (fun _ => trivial), by decide⟩ wn rfl (fun _ h => rh_loadm1 tf3 rfl rfl h) ?_
  refine wg_val (i := 2) (listed' := #[true, true, true, false, false, false, false, false, false, false, false, false, false]) (fun _ => True) rfl (by kernel_rfl) (pk_then pk_body) (by kernel_rfl) rfl (by kernel_rfl) (by kernel_rfl) rfl (.inl fun _ _ => trivial) ⟨⟨hS14.hasK (KLe.refl _), hS14.hasObj (.head _), hS14.hasObj (.tail _ (.head _))⟩, (fun _ => trivial), by decide⟩ wn rfl (fun _ _ => (rv_fieldAddr ff72_1 rfl)) ?_
  refine wg_val (i := 3) (listed' := #[true, true, true, true, false, false, false, false, false, false, false, false, false]) (HasObj g5 [.int .i64 p0_a.Doc, .int .i64 p0_a.Points]) rfl (by kernel_rfl) (pk_then pk_body) (by kernel_rfl) rfl (by kernel_rfl) (by kernel_rfl) rfl (.inl fun _ h => h.2.2) ⟨⟨hS14.hasK (KLe.refl _), hS14.hasObj (.head _), hS14.hasObj (.tail _ (.head _))⟩, (fun _ => trivial), by decide⟩ wn rfl (fun _ h => rh_loadm1 tf3 rfl rfl h) ?_
  refine wg_val (i := 5) (listed' := #[true, true, true, true, false, true, false, false, false, false, false, false, false]) (fun _ => True) rfl (by kernel_rfl) (pk_then pk_body) (by kernel_rfl) rfl (by kernel_rfl) (by kernel_rfl) rfl (.inl fun _ _ => trivial) ⟨⟨hS14.hasK (KLe.refl _), hS14.hasObj (.head _), hS14.hasObj (.tail _ (.head _))⟩, (fun _ => trivial), by decide⟩ wn rfl (fun _ _ => (rv_fieldAddr ff72_0 rfl)) ?_
  refine wg_val (i := 6) (listed' := #[true, true, true, true, false, true, true, false, false, false, false, false, false]) (HasObj g5 [.int .i64 p0_a.Doc, .int .i64 p0_a.Points]) rfl (by kernel_rfl) (pk_then pk_body) (by kernel_rfl) rfl (by kernel_rfl) (by kernel_rfl) rfl (.inl fun _ h => h.2.2) ⟨⟨hS14.hasK (KLe.refl _), hS14.hasObj (.head _), hS14.hasObj (.tail _ (.head _))⟩, (fun _ => trivial), by decide⟩ wn rfl (fun _ h => rh_loadm1 tf3 rfl rfl h) ?_
  refine wg_val (i := 7) (listed' := #[true, true, true, true, false, true, true, true, false, false, false, false, false]) (fun _ => True) rfl (by kernel_rfl) (pk_then pk_body) (by kernel_rfl) rfl (by kernel_rfl) (by kernel_rfl) rfl (.inl fun _ _ => trivial) ⟨⟨hS14.hasK (KLe.refl _), hS14.hasObj (.head _), hS14.hasObj (.tail _ (.head _))⟩, (fun _ => trivial), by decide⟩ wn rfl (fun _ _ => (rv_fieldAddr ff72_0 rfl)) ?_
  refine wg_val (i := 8) (listed' := #[true, true, true, true, false, true, true, true, true, false, false, false, false]) (HasObj g9 [.int .i64 p1_b.Doc, .int .i64 p1_b.Points]) rfl (by kernel_rfl) (pk_then pk_body) (by kernel_rfl) rfl (by kernel_rfl) (by kernel_rfl) rfl (.inl fun _ h => h.2.1) ⟨⟨hS14.hasK (KLe.refl _), hS14.hasObj (.head _), hS14.hasObj (.tail _ (.head _))⟩, (fun _ => trivial), by decide⟩ wn rfl (fun _ h => rh_loadm1 tf3 rfl rfl h) ?_
  refine wg_one (i := 4) (by kernel_rfl) rfl ?_
  obtain ⟨r15, hx16, h17⟩ := Option.bind_eq_some_iff.1 hm
  refine wl_call wn rfl (rt_call (vs := [.int .i64 p1_b.Points, .int .i64 p0_a.Points]) co123 rfl) ((ok_cmp_Compare_int F) hS14.enter0 hr4 hr2 hx16) ?_
  rintro e22 w19 ⟨K18, rfl, hS20, hr21⟩
  refine ⟨_, rfl, ?_⟩
  have hS23 : SH _ _ _ _ _ [_, _] := SH.call0 hS14 hS20
  refine wl_nil (qe_held (listed' := #[true, true, true, true, true, true, true, true, true, false, false, false, false]) rfl ⟨⟨hS23.hasK hS20.le, hS23.hasObj (.head _), hS23.hasObj (.tail _ (.head _))⟩, (fun _ => trivial), by decide⟩ ?_)
  refine wg_one (i := 9) (by kernel_rfl) rfl ?_
  obtain ⟨r24, hx25, h26⟩ := Option.bind_eq_some_iff.1 h17
  refine wl_call wn rfl (rt_call (vs := [.int .i64 p0_a.Doc, .int .i64 p1_b.Doc]) co123 rfl) ((ok_cmp_Compare_int F) hS23.enter0 hr1 hr3 hx25) ?_
  rintro e31 w28 ⟨K27, rfl, hS29, hr30⟩
  refine ⟨_, rfl, ?_⟩
  have hS32 : SH _ _ _ _ _ [_, _] := SH.call0 hS23 hS29
  refine wl_nil (qe_held (listed' := #[true, true, true, true, true, true, true, true, true, true, false, false, false]) rfl ⟨⟨hS32.hasK (hS20.le.trans hS29.le), hS32.hasObj (.head _), hS32.hasObj (.tail _ (.head _))⟩, (fun _ => trivial), by decide⟩ ?_)
  refine wg_one (i := 10) (by kernel_rfl) rfl ?_
  refine wl_buildSlice (t := tInt) (n := 2) (pv := [(0, .int .i64 r15), (1, .int .i64 r24)]) (cs := [.int .i64 r15, .int .i64 r24]) (xs := [r15, r24]) wn rfl Try.underlying120 tf3 rfl rfl rfl (by kernel_rfl) rfl rfl (lit_cons (u := .int .i64 r15) (z := r15) ⟨rfl, hr21⟩ (lit_cons (u := .int .i64 r24) (z := r24) ⟨rfl, hr30⟩ lit_nil)) hS32 ?_
  intro a33 w34 K35 hl36 hs37 hS38
  refine wl_nil (qe_held (listed' := #[true, true, true, true, true, true, true, true, true, true, true, false, false]) rfl ⟨⟨hS38.hasK ((hS20.le.trans hS29.le).trans hl36), hS38.hasObj (.tail _ (.head _)), hS38.hasObj (.tail _ (.tail _ (.head _)))⟩, (fun _ => trivial), by decide⟩ ?_)
  refine wg_one (i := 11) (by kernel_rfl) rfl ?_
  obtain ⟨r39, hx40, h41⟩ := Option.bind_eq_some_iff.1 h26
  refine wl_call wn rfl (rt_call (vs := [.slice a33 2 2]) co122 rfl) ((ok_cmp_Or_int F) hS38.enter0 hs37 hx40) ?_
  rintro e46 w43 ⟨K42, rfl, hS44, hr45⟩
  refine ⟨_, rfl, ?_⟩
  have hS47 : SH _ _ _ _ _ [_, _, _] := SH.call0 hS38 hS44
  refine wl_nil (qe_held (listed' := #[true, true, true, true, true, true, true, true, true, true, true, true, false]) rfl ⟨⟨hS47.hasK (((hS20.le.trans hS29.le).trans hl36).trans hS44.le), hS47.hasObj (.tail _ (.head _)), hS47.hasObj (.tail _ (.tail _ (.head _)))⟩, (fun _ => trivial), by decide⟩ ?_)
  refine wg_val (i := 12) (listed' := #[true, true, true, true, true, true, true, true, true, true, true, true, true]) (fun _ => True) rfl (by kernel_rfl) (pk_then pk_body) (by kernel_rfl) rfl (by kernel_rfl) (by kernel_rfl) rfl (.inl fun _ _ => trivial) ⟨⟨hS47.hasK (((hS20.le.trans hS29.le).trans hl36).trans hS44.le), hS47.hasObj (.tail _ (.head _)), hS47.hasObj (.tail _ (.tail _ (.head _)))⟩, (fun _ => trivial), by decide⟩ wn rfl (fun _ _ => (rv_assign rfl)) ?_
  refine wg_done (by kernel_rfl) ?_
  refine qe_seq ?_
  refine wc_ret ?_
  obtain rfl := Option.some.inj h41
  have hS48 : SH _ _ _ _ _ [] := SH.sublist hS47 (.cons _ (.cons _ (.cons _ .slnil)))
  exact qe_ret (vs := [_]) Try.results91 ⟨rfl, trivial⟩ ⟨K42, rfl, hS48, hr45⟩
end Go.Proofs.Ytajfhpaokbgmeaa
