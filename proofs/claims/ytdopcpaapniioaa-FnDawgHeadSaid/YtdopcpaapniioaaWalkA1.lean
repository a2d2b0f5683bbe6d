/-
  Walks of the functions. Printed by gen.py.
-/
import Derived.Test.YtdopcpaapniioaaWalkA0
set_option linter.unusedVariables false
set_option maxRecDepth 100000
namespace Go.Proofs.Ytdopcpaapniioaa
open Go Go.Fk Go.RowKit

theorem ok_impl_DawgOf (F : Nat) {w : World} {K : KMap} {a1 : Option Addr} {n2 c3 : Nat} {p0_words : List Str} {r : (List GState)} (hS : SH w K [] w K []) (hs4 : SliceAt tStr K a1 n2 c3 p0_words) (hm : M.impl_DawgOf F p0_words = some r) :
    Calls Try.prog 19 #[.slice a1 n2 c3] w fun e w' => ∃ (a_1 : Option Addr) (n_2 c_3 : Nat) (K' : KMap), e = .returned (.slice a_1 n_2 c_3) ∧ SH w K [] w' K' [tail (.slice a_1 n_2 c_3) 33 3] ∧ SliceAt tGState K' a_1 n_2 c_3 r := by
  rw [M.impl_DawgOf] at hm
  refine calls_in Try.func19 rfl Try.ntmps19 rfl ?_
  refine wc_seq ?_
  refine wc_region ?_
  refine wl_val wn rfl (rv_assign (v := .slice none 0 0) rfl) ?_
  refine wl_nil ?_
  refine qe_seq ?_
  refine wc_seq ?_
  refine wc_seq ?_
  refine wc_region ?_
  refine wl_val wn rfl (rv_move rfl) ?_
  obtain ⟨r5, hx6, h7⟩ := Option.bind_eq_some_iff.1 hm
  refine wl_call wn rfl (rt_call (vs := [.slice a1 n2 c3]) co30 rfl) ((ok_impl_WordsUp F) hS.enter0 hs4 hx6) ?_
  rintro e11 w9 ⟨K8, rfl, hS10⟩
  refine ⟨_, rfl, ?_⟩
  have hS12 : SH _ _ _ _ _ [] := SH.call0 hS hS10
  refine wl_val wn rfl (rv_not rfl) ?_
  refine wl_nil ?_
  refine qe_seq ?_
  refine wc_cond rfl (fun hb13 => ?_) (fun hb13 => ?_)
  · have h14 := cond_t hb13 h7
    refine wc_seq ?_
    refine wc_region ?_
    refine wl_buildSlice0 tGState wn rfl Try.underlying28 tf33 hS12 ?_
    intro a15 w16 K17 hl18 hs19 hS20
    refine wl_val wn rfl (rv_assign rfl) ?_
    refine wl_nil ?_
    refine qe_seq ?_
    refine wc_ret ?_
    refine qe_then_ret ?_
    obtain rfl := Option.some.inj h14
    exact qe_ret (vs := [_]) Try.results19 ⟨rfl, trivial⟩ ⟨a15, 0, 0, K17, rfl, hS20, hs19⟩
  · have h14 := cond_f hb13 h7
    refine wc_skip ?_
    refine qe_seq ?_
    refine wc_seq ?_
    refine wc_region ?_
    refine wl_buildSlice0 tGState wn rfl Try.underlying28 tf33 hS12 ?_
    intro a21 w22 K23 hl24 hs25 hS26
    refine wl_val wn rfl (rv_build (cs := #[.slice a21 0 0]) sp68 tf68 rfl (by kernel_rfl)) ?_
    refine wl_box wn rfl rfl hS26 ?_
    intro g27 w28 hS29
    have hS30 : SH _ _ _ _ _ [obj g27 [.slice a21 0 0] 68, _] := hS29
    refine wl_val wn rfl (rv_assign rfl) ?_
    refine wl_nil ?_
    refine qe_seq ?_
    refine wc_seq ?_
    refine wc_region ?_
    refine wl_val wn rfl (rv_move rfl) ?_
    refine wl_val wn rfl (rv_move rfl) ?_
    obtain ⟨r31, hx32, h33⟩ := Option.bind_eq_some_iff.1 h14
    have hS34 : SH _ _ _ _ _ [_, _] := SH.front (p := [_]) hS30
    have hS35 : SH _ _ _ _ _ [_, _] := SH.front (p := [_]) hS34
    refine wl_call wn rfl (rt_call (vs := [.pointer (some ⟨g27, 0, none⟩), .slice a1 n2 c3]) co53 rfl) ((ok_impl_dawg_put F (p0_d := (GDawg.mk ([] : List GState)))) (SH.enter (Lin := [_, _]) hS35) hs25 (SliceAt.mono (hS10.le.trans hl24) hs4) hx32) ?_
    rintro e44 w37 ⟨a40, n41, c42, K36, rfl, hS38, hr39, hs43⟩
    refine ⟨_, rfl, ?_⟩
    have hS45 : SH _ _ _ _ _ [_, _] := SH.call (Lin := [_, _]) hS35 hS38
    refine wl_nil ?_
    refine qe_seq ?_
    refine wc_seq ?_
    refine wc_region ?_
    refine wl_val wn rfl (rv_move rfl) ?_
    refine wl_val wn rfl (rv_nilCheck rfl) ?_
    refine wl_val wn rfl (rv_fieldAddr ff68_0 rfl) ?_
    refine wl_val wn rfl (rv_loadm1 tf28 rfl (.head _) hS45 rfl) ?_
    refine wl_val wn rfl (rv_assign rfl) ?_
    refine wl_nil ?_
    refine qe_seq ?_
    refine wc_ret ?_
    obtain rfl := Option.some.inj h33
    have hS46 : SH _ _ _ _ _ [_] := SH.sublist hS45 (.cons _ (.cons_cons _ .slnil))
    exact qe_ret (vs := [_]) Try.results19 ⟨rfl, trivial⟩ ⟨a40, n41, c42, K36, rfl, hS46, hs43⟩

set_option maxHeartbeats 2000000 in
theorem ok_impl_lister_visit (F : Nat) : ∀ {w : World} {K : KMap} {g1 : Nat} {a2 : Option Addr} {n3 c4 : Nat} {a6 : Option Addr} {n7 c8 : Nat} {p0_l : GLister} {p1_at : Int} {p2_head : Str} {r : GLister} (hS : SH w K (List.filterMap Item.g [obj g1 [.slice a2 n3 c4, .slice a6 n7 c8, .int .i64 p0_l.steps_, .bool p0_l.bad_] 96, tail (.slice a6 n7 c8) 9 1]) w K [obj g1 [.slice a2 n3 c4, .slice a6 n7 c8, .int .i64 p0_l.steps_, .bool p0_l.bad_] 96, tail (.slice a6 n7 c8) 9 1]) (hs5 : SliceAt tGState K a2 n3 c4 p0_l.d_) (hs9 : SliceAt tStr K a6 n7 c8 p0_l.words_) (hr10 : rng64 p0_l.steps_) (hr11 : rng64 p1_at) (hl12 : p2_head.length ≤ maxLen) (hm : M.impl_lister_visit F p0_l p1_at p2_head = some r),
    Calls Try.prog 81 #[.pointer (some ⟨g1, 0, none⟩), .int .i64 p1_at, sv p2_head] w fun e w' => ∃ (a_1 : Option Addr) (n_2 c_3 : Nat) (a_5 : Option Addr) (n_6 c_7 : Nat) (K' : KMap), e = .returned (.tuple #[]) ∧ SH w K (List.filterMap Item.g [obj g1 [.slice a2 n3 c4, .slice a6 n7 c8, .int .i64 p0_l.steps_, .bool p0_l.bad_] 96, tail (.slice a6 n7 c8) 9 1]) w' K' [obj g1 [.slice a_1 n_2 c_3, .slice a_5 n_6 c_7, .int .i64 r.steps_, .bool r.bad_] 96, tail (.slice a_5 n_6 c_7) 9 1] ∧ SliceAt tGState K' a_1 n_2 c_3 r.d_ ∧ SliceAt tStr K' a_5 n_6 c_7 r.words_ ∧ rng64 r.steps_ := by
  induction F with
  | zero => intros; rename_i hm; rw [M.impl_lister_visit] at hm; cases hm
  | succ F ih =>
    intro w K g1 a2 n3 c4 a6 n7 c8 p0_l p1_at p2_head r hS hs5 hs9 hr10 hr11 hl12 hm
    rw [M.impl_lister_visit] at hm
    refine calls_in Try.func81 rfl Try.ntmps81 rfl ?_
    refine wc_seq ?_
    refine wc_region ?_
    refine wl_val wn rfl (rv_move rfl) ?_
    refine wl_val wn rfl (rv_nilCheck rfl) ?_
    refine wl_val wn rfl (rv_fieldAddr ff96_2 rfl) ?_
    refine wl_val wn rfl (rv_loadm1 tf3 rfl (.head _) hS rfl) ?_
    refine wl_val wn rfl (rv_add rfl rfl) ?_
    refine wl_val wn rfl (rv_nilCheck rfl) ?_
    refine wl_val wn rfl (rv_fieldAddr ff96_2 rfl) ?_
    refine wl_store (cs' := [.slice a2 n3 c4, .slice a6 n7 c8, .int .i64 (w64 (p0_l.steps_ + (1 : Int))), .bool p0_l.bad_]) (v := .int .i64 (w64 (p0_l.steps_ + (1 : Int)))) wn tf3 rfl rfl rfl (by simp [Value.cells, Value.oneCell']) hS rfl rfl ?_
    intro w13 hS14
    refine wl_nil ?_
    refine qe_seq ?_
    refine wc_seq ?_
    refine wc_seq ?_
    obtain ⟨o15, h16, h17⟩ := Option.bind_eq_some_iff.1 hm
    refine wc_cutg (fun E' w' => ∃ (K18 : KMap), E' = [(0, .pointer (some ⟨g1, 0, none⟩)), (1, .int .i64 p1_at), (2, sv p2_head), (25, .bool o15)] ∧ SH w K (List.filterMap Item.g [obj g1 [.slice a2 n3 c4, .slice a6 n7 c8, .int .i64 p0_l.steps_, .bool p0_l.bad_] 96, tail (.slice a6 n7 c8) 9 1]) w' K18 [obj g1 [.slice a2 n3 c4, .slice a6 n7 c8, .int .i64 (w64 (p0_l.steps_ + (1 : Int))), .bool p0_l.bad_] 96, tail (.slice a6 n7 c8) 9 1] ∧ KLe K K18) ?_ ?_
    · refine wc_region ?_
      refine wl_val wn rfl (rv_move rfl) ?_
      refine wl_val wn rfl (rv_nilCheck rfl) ?_
      refine wl_val wn rfl (rv_fieldAddr ff96_2 rfl) ?_
      refine wl_val wn rfl (rv_loadm1 tf3 rfl (.head _) hS14 rfl) ?_
      refine wl_val wn rfl (rv_gtr rfl rfl) ?_
      refine wl_val wn rfl (rv_move rfl) ?_
      rcases bool_tf (decide ((560 : Int) < (w64 (p0_l.steps_ + (1 : Int))))) with hb22 | hb22
      · have h23 := cond_t hb22 h16
        refine wl_un (ug rfl rfl hb22) rfl ?_
        refine wl_un (ug rfl rfl hb22) rfl ?_
        refine wl_un (ug rfl rfl hb22) rfl ?_
        refine wl_val wn rfl (rv_pick_t (v := .bool true) rfl hb22 rfl) ?_
        refine wl_nil ?_
        obtain rfl := Option.some.inj h23
        exact qe_mid' ⟨K, rfl, hS14, (KLe.refl _)⟩ ⟨rfl, rfl, rfl, rfl, trivial⟩
      · have h23 := cond_f hb22 h16
        refine wl_val (wg rfl rfl hb22) rfl (rv_move rfl) ?_
        refine wl_val (wg rfl rfl hb22) rfl (rv_slen Try.underlying9 rfl) ?_
        refine wl_val (wg rfl rfl hb22) rfl (rv_gtr rfl rfl) ?_
        refine wl_val wn rfl (rv_pick_f rfl hb22 rfl) ?_
        refine wl_nil ?_
        obtain rfl := Option.some.inj h23
        exact qe_mid' ⟨K, rfl, hS14, (KLe.refl _)⟩ ⟨rfl, rfl, rfl, rfl, trivial⟩
    · rintro _ w20 ⟨K18, rfl, hS21, hl19⟩
      refine qe_seq ?_
      obtain ⟨o24, h25, h26⟩ := Option.bind_eq_some_iff.1 h17
      refine wc_cutg (fun E' w' => ∃ (a31 : Option Addr) (n32 c33 : Nat) (a35 : Option Addr) (n36 c37 : Nat) (K27 : KMap), E' = [(0, .pointer (some ⟨g1, 0, none⟩)), (1, .int .i64 p1_at), (2, sv p2_head)] ∧ SH w K (List.filterMap Item.g [obj g1 [.slice a2 n3 c4, .slice a6 n7 c8, .int .i64 p0_l.steps_, .bool p0_l.bad_] 96, tail (.slice a6 n7 c8) 9 1]) w' K27 [obj g1 [.slice a31 n32 c33, .slice a35 n36 c37, .int .i64 o24.steps_, .bool o24.bad_] 96, tail (.slice a35 n36 c37) 9 1] ∧ KLe K18 K27 ∧ SliceAt tGState K27 a31 n32 c33 o24.d_ ∧ SliceAt tStr K27 a35 n36 c37 o24.words_ ∧ rng64 o24.steps_) ?_ ?_
      · refine wc_cond rfl (fun hb40 => ?_) (fun hb40 => ?_)
        · have h41 := cond_t hb40 h25
          refine wc_region ?_
          refine wl_val wn rfl (rv_move rfl) ?_
          refine wl_val wn rfl (rv_nilCheck rfl) ?_
          refine wl_val wn rfl (rv_fieldAddr ff96_3 rfl) ?_
          refine wl_store (cs' := [.slice a2 n3 c4, .slice a6 n7 c8, .int .i64 (w64 (p0_l.steps_ + (1 : Int))), .bool true]) (v := .bool true) wn tf4 rfl rfl rfl (by simp [Value.cells, Value.oneCell']) hS21 rfl rfl ?_
          intro w42 hS43
          refine wl_nil ?_
          obtain rfl := Option.some.inj h41
          exact qe_mid' ⟨a2, n3, c4, a6, n7, c8, K18, rfl, hS43, (KLe.refl _), (SliceAt.mono hl19 hs5), (SliceAt.mono hl19 hs9), (w64_rng _)⟩ ⟨rfl, rfl, rfl, trivial⟩
        · have h41 := cond_f hb40 h25
          refine wc_skip ?_
          obtain rfl := Option.some.inj h41
          exact qe_mid' ⟨a2, n3, c4, a6, n7, c8, K18, rfl, hS21, (KLe.refl _), (SliceAt.mono hl19 hs5), (SliceAt.mono hl19 hs9), (w64_rng _)⟩ ⟨rfl, rfl, rfl, trivial⟩
      · rintro _ w29 ⟨a31, n32, c33, a35, n36, c37, K27, rfl, hS30, hl28, hs34, hs38, hr39⟩
        refine qe_seq ?_
        refine wc_seq ?_
        refine wc_seq ?_
        refine wc_region ?_
        refine wl_val wn rfl (rv_move rfl) ?_
        refine wl_val wn rfl (rv_nilCheck rfl) ?_
        refine wl_val wn rfl (rv_fieldAddr ff96_3 rfl) ?_
        refine wl_val wn rfl (rv_loadm1 tf4 rfl (.head _) hS30 rfl) ?_
        refine wl_nil ?_
        refine qe_seq ?_
        refine wc_cond rfl (fun hb44 => ?_) (fun hb44 => ?_)
        · have h45 := cond_t hb44 h26
          refine wc_ret ?_
          refine qe_then_ret ?_
          obtain rfl := Option.some.inj h45
          exact qe_ret (vs := []) Try.results81 trivial ⟨a31, n32, c33, a35, n36, c37, K27, rfl, hS30, hs34, hs38, hr39⟩
        · have h45 := cond_f hb44 h26
          refine wc_skip ?_
          refine qe_seq ?_
          refine wc_seq ?_
          refine wc_region ?_
          refine wl_val wn rfl (rv_move rfl) ?_
          refine wl_val wn rfl (rv_nilCheck rfl) ?_
          refine wl_val wn rfl (rv_fieldAddr ff96_0 rfl) ?_
          refine wl_val wn rfl (rv_loadm1 tf28 rfl (.head _) hS30 rfl) ?_
          refine wl_val wn rfl (rv_move rfl) ?_
          obtain ⟨x46, hx47, h48⟩ := Option.bind_eq_some_iff.1 h45
          refine wl_indexAddr (t := tGState) wn rfl Try.underlying28 tf33 rfl rfl hs34 hx47 ?_
          intro b49 o50 u51 hu52 ha53
          obtain ⟨a55, n56, c57, rfl, hr54, hs58⟩ := hu52
          have ha59 : AtK _ b49 o50 [.bool x46.Final, .int .i64 x46.Many, .slice a55 n56 c57] := ha53
          refine wl_val wn rfl (rv_loadS (cs := [.bool x46.Final, .int .i64 x46.Many, .slice a55 n56 c57]) tf33 rfl hS30 ha59 rfl) ?_
          refine wl_alloc wn rfl tf33 hS30 ?_
          intro g60 w61 hS62
          have hS63 : SH _ _ _ _ _ [obj g60 [.bool false, .int .i64 0, .slice none 0 0] 33, _, _] := hS62
          refine wl_store (cs' := [.bool x46.Final, .int .i64 x46.Many, .slice a55 n56 c57]) (v := .agg #[.bool x46.Final, .int .i64 x46.Many, .slice a55 n56 c57]) wn tf33 rfl rfl rfl (by simp [Value.cells, Value.oneCell']) hS63 rfl rfl ?_
          intro w64 hS65
          refine wl_nil ?_
          refine qe_seq ?_
          refine wc_seq ?_
          refine wc_seq ?_
          refine wc_region ?_
          refine wl_val wn rfl (rv_fieldAddr ff33_0 rfl) ?_
          refine wl_val wn rfl (rv_loadm1 tf4 rfl (.head _) hS65 rfl) ?_
          refine wl_nil ?_
          refine qe_seq ?_
          obtain ⟨o66, h67, h68⟩ := Option.bind_eq_some_iff.1 h48
          refine wc_cutg (fun E' w' => ∃ (a73 : Option Addr) (n74 c75 : Nat) (a77 : Option Addr) (n78 c79 : Nat) (K69 : KMap), E' = [(0, .pointer (some ⟨g1, 0, none⟩)), (1, .int .i64 p1_at), (2, sv p2_head), (6, .pointer (some ⟨g60, 0, none⟩))] ∧ SH w K (List.filterMap Item.g [obj g1 [.slice a2 n3 c4, .slice a6 n7 c8, .int .i64 p0_l.steps_, .bool p0_l.bad_] 96, tail (.slice a6 n7 c8) 9 1]) w' K69 [obj g1 [.slice a73 n74 c75, .slice a77 n78 c79, .int .i64 o66.steps_, .bool o66.bad_] 96, tail (.slice a77 n78 c79) 9 1, obj g60 [.bool x46.Final, .int .i64 x46.Many, .slice a55 n56 c57] 33] ∧ KLe K27 K69 ∧ SliceAt tGState K69 a73 n74 c75 o66.d_ ∧ SliceAt tStr K69 a77 n78 c79 o66.words_ ∧ rng64 o66.steps_) ?_ ?_
          · refine wc_cond rfl (fun hb82 => ?_) (fun hb82 => ?_)
            · have h83 := cond_t hb82 h67
              refine wc_region ?_
              refine wl_val wn rfl (rv_move rfl) ?_
              refine wl_val wn rfl (rv_move rfl) ?_
              refine wl_val wn rfl (rv_nilCheck rfl) ?_
              refine wl_val wn rfl (rv_fieldAddr ff96_1 rfl) ?_
              refine wl_val wn rfl (rv_loadm1 tf26 rfl (.tail _ (.head _)) hS65 rfl) ?_
              refine wl_val wn rfl (rv_move rfl) ?_
              refine wl_buildSlice (t := tStr) (n := 1) (pv := [(0, sv p2_head)]) (cs := [sv p2_head]) (xs := [p2_head]) wn rfl Try.underlying26 tf9 rfl rfl rfl (by kernel_rfl) rfl rfl (lit_cons (u := sv p2_head) (z := p2_head) ⟨rfl, hl12⟩ lit_nil) hS65 ?_
              intro a84 w85 K86 hl87 hs88 hS89
              have hS90 : SH _ _ _ _ _ [_, _, _, _] := SH.front (p := [_, _, _]) hS89
              obtain ⟨x91, hx92, h93⟩ := Option.bind_eq_some_iff.1 h83
              refine wl_append (t := tStr) wn rfl Try.underlying26 tf9 rfl rfl rfl rfl rfl (SliceAt.mono hl87 hs38) hs88 hx92 hS90 ?_
              intro a94 n95 c96 w97 K98 hl99 hs100 hS101
              refine wl_val wn rfl (rv_nilCheck rfl) ?_
              refine wl_val wn rfl (rv_fieldAddr ff96_1 rfl) ?_
              have hS102 : SH _ _ _ _ _ [_, _, _, _] := SH.front (p := [_, _, _]) hS101
              refine wl_store (cs' := [.slice a31 n32 c33, .slice a94 n95 c96, .int .i64 o24.steps_, .bool o24.bad_]) (v := .slice a94 n95 c96) wn tf26 rfl rfl rfl (by simp [Value.cells, Value.oneCell']) hS102 rfl rfl ?_
              intro w103 hS104
              refine wl_nil ?_
              obtain rfl := Option.some.inj h93
              have hS105 : SH _ _ _ _ _ [_, _, _] := SH.sublist hS104 (.cons_cons _ (.cons_cons _ (.cons _ (.cons_cons _ .slnil))))
              exact qe_mid' ⟨a31, n32, c33, a94, n95, c96, K98, rfl, hS105, (hl87.trans hl99), (SliceAt.mono (hl87.trans hl99) hs34), hs100, hr39⟩ ⟨rfl, rfl, rfl, rfl, trivial⟩
            · have h83 := cond_f hb82 h67
              refine wc_skip ?_
              obtain rfl := Option.some.inj h83
              have hS106 : SH _ _ _ _ _ [_, _, _] := SH.front (p := [_, _]) hS65
              have hS107 : SH _ _ _ _ _ [_, _, _] := SH.front (p := [_, _]) hS106
              exact qe_mid' ⟨a31, n32, c33, a35, n36, c37, K27, rfl, hS107, (KLe.refl _), hs34, hs38, hr39⟩ ⟨rfl, rfl, rfl, rfl, trivial⟩
          · rintro _ w71 ⟨a73, n74, c75, a77, n78, c79, K69, rfl, hS72, hl70, hs76, hs80, hr81⟩
            refine qe_seq ?_
            refine wc_seq ?_
            refine wc_region ?_
            refine wl_val wn rfl (rv_fieldAddr ff33_2 rfl) ?_
            refine wl_val wn rfl (rv_loadm1 tf31 rfl (.tail _ (.tail _ (.head _))) hS72 rfl) ?_
            refine wl_val wn rfl (rv_len (t := tGArc) Try.underlying31 rfl (SliceAt.mono hl70 hs58)) ?_
            refine wl_val wn rfl (rv_move (v := .int .i64 0) rfl) ?_
            refine wl_nil ?_
            refine qe_seq ?_
            obtain ⟨o108, h109, h110⟩ := Option.bind_eq_some_iff.1 h68
            refine wc_cutg (fun E' w' => ∃ (s111 : GLister) (a116 : Option Addr) (n117 c118 : Nat) (a120 : Option Addr) (n121 c122 : Nat) (K112 : KMap), o108 = .inl s111 ∧ E' = [(0, .pointer (some ⟨g1, 0, none⟩))] ∧ SH w K (List.filterMap Item.g [obj g1 [.slice a2 n3 c4, .slice a6 n7 c8, .int .i64 p0_l.steps_, .bool p0_l.bad_] 96, tail (.slice a6 n7 c8) 9 1]) w' K112 [obj g1 [.slice a116 n117 c118, .slice a120 n121 c122, .int .i64 s111.steps_, .bool s111.bad_] 96, tail (.slice a120 n121 c122) 9 1] ∧ KLe K69 K112 ∧ SliceAt tGState K112 a116 n117 c118 s111.d_ ∧ SliceAt tStr K112 a120 n121 c122 s111.words_ ∧ rng64 s111.steps_) ?_ ?_
            · refine wc_block ?_
              obtain ⟨r126, h127, h128⟩ := Option.bind_eq_some_iff.1 h109
              have hS143 : SH _ _ _ _ _ [_, _] := SH.sublist hS72 (.cons_cons _ (.cons_cons _ (.cons _ .slnil)))
              refine wc_for' (fun (i129 : Nat) (s125 : GLister) E' w' => ∃ (a134 : Option Addr) (n135 c136 : Nat) (a138 : Option Addr) (n139 c140 : Nat) (K130 : KMap), E' = [(0, .pointer (some ⟨g1, 0, none⟩)), (1, .int .i64 p1_at), (2, sv p2_head), (53, .slice a55 n56 c57), (54, .int .i64 (x46.Arcs.length : Int)), (55, .int .i64 ((i129 : Nat) : Int))] ∧ SH w K (List.filterMap Item.g [obj g1 [.slice a2 n3 c4, .slice a6 n7 c8, .int .i64 p0_l.steps_, .bool p0_l.bad_] 96, tail (.slice a6 n7 c8) 9 1]) w' K130 [obj g1 [.slice a134 n135 c136, .slice a138 n139 c140, .int .i64 s125.steps_, .bool s125.bad_] 96, tail (.slice a138 n139 c140) 9 1] ∧ KLe K69 K130 ∧ SliceAt tGState K130 a134 n135 c136 s125.d_ ∧ SliceAt tStr K130 a138 n139 c140 s125.words_ ∧ rng64 s125.steps_) h127 ⟨a73, n74, c75, a77, n78, c79, K69, rfl, hS143, (KLe.refl _), hs76, hs80, hr81⟩ ⟨rfl, rfl, rfl, rfl, rfl, rfl, trivial⟩ ?_ ?_
              · rintro i129 s125 _ w132 r144 hi145 h146 hx147 ⟨a134, n135, c136, a138, n139, c140, K130, rfl, hS133, hl131, hs137, hs141, hr142⟩
                refine wc_seq (wc_region ?_)
                refine wl_val wn rfl (rv_lss rfl rfl) ?_
                refine wl_nil (qe_seq (wc_seq ?_))
                refine wc_cond_t rfl (decide_eq_true (by omega)) (wc_skip (qe_seq (wc_seq ?_)))
                refine wc_block ?_
                refine wc_seq ?_
                refine wc_region ?_
                obtain ⟨x148, hx149, h150⟩ := Option.bind_eq_some_iff.1 h146
                refine wl_indexAddr (t := tGArc) wn rfl Try.underlying31 tf35 rfl rfl (SliceAt.mono (hl70.trans hl131) hs58) hx149 ?_
                intro b151 o152 u153 hu154 ha155
                obtain ⟨rfl, hr156⟩ := hu154
                have ha157 : AtK _ b151 o152 [iv8 x148.Byte, .int .i64 x148.To] := ha155
                refine wl_val wn rfl (rv_loadS (cs := [iv8 x148.Byte, .int .i64 x148.To]) tf35 rfl hS133 ha157 rfl) ?_
                refine wl_alloc wn rfl tf35 hS133 ?_
                intro g158 w159 hS160
                have hS161 : SH _ _ _ _ _ [obj g158 [iv8 0, .int .i64 0] 35, _, _] := hS160
                refine wl_store (cs' := [iv8 x148.Byte, .int .i64 x148.To]) (v := .agg #[iv8 x148.Byte, .int .i64 x148.To]) wn tf35 rfl rfl rfl (by simp [Value.cells, Value.oneCell', iv8]) hS161 rfl rfl ?_
                intro w162 hS163
                refine wl_nil ?_
                refine qe_seq ?_
                refine wc_seq ?_
                refine wc_seq ?_
                obtain ⟨o164, h165, h166⟩ := Option.bind_eq_some_iff.1 h150
                refine wc_cutg (fun E' w' => ∃ (K167 : KMap), E' = [(0, .pointer (some ⟨g1, 0, none⟩)), (1, .int .i64 p1_at), (2, sv p2_head), (8, .pointer (some ⟨g158, 0, none⟩)), (53, .slice a55 n56 c57), (54, .int .i64 (x46.Arcs.length : Int)), (55, .int .i64 ((i129 : Nat) : Int)), (67, .bool o164)] ∧ SH w K (List.filterMap Item.g [obj g1 [.slice a2 n3 c4, .slice a6 n7 c8, .int .i64 p0_l.steps_, .bool p0_l.bad_] 96, tail (.slice a6 n7 c8) 9 1]) w' K167 [obj g1 [.slice a134 n135 c136, .slice a138 n139 c140, .int .i64 s125.steps_, .bool s125.bad_] 96, tail (.slice a138 n139 c140) 9 1, obj g158 [iv8 x148.Byte, .int .i64 x148.To] 35] ∧ KLe K130 K167) ?_ ?_
                · refine wc_region ?_
                  refine wl_val wn rfl (rv_fieldAddr ff35_1 rfl) ?_
                  refine wl_val wn rfl (rv_loadm1 tf3 rfl (.head _) hS163 rfl) ?_
                  refine wl_val wn rfl (rv_lss rfl rfl) ?_
                  refine wl_val wn rfl (rv_move rfl) ?_
                  rcases bool_tf (decide (x148.To < (0 : Int))) with hb171 | hb171
                  · have h172 := cond_t hb171 h165
                    refine wl_un (ug rfl rfl hb171) rfl ?_
                    refine wl_un (ug rfl rfl hb171) rfl ?_
                    refine wl_un (ug rfl rfl hb171) rfl ?_
                    refine wl_un (ug rfl rfl hb171) rfl ?_
                    refine wl_val wn rfl (rv_pick_t (v := .bool true) rfl hb171 rfl) ?_
                    refine wl_nil ?_
                    obtain rfl := Option.some.inj h172
                    have hS173 : SH _ _ _ _ _ [_, _, _] := SH.front (p := [_, _]) hS163
                    have hS174 : SH _ _ _ _ _ [_, _, _] := SH.front (p := [_, _]) hS173
                    exact qe_mid' ⟨K130, rfl, hS174, (KLe.refl _)⟩ ⟨rfl, rfl, rfl, rfl, rfl, rfl, rfl, rfl, trivial⟩
                  · have h172 := cond_f hb171 h165
                    refine wl_val (wg rfl rfl hb171) rfl (rv_fieldAddr ff35_1 rfl) ?_
                    refine wl_val (wg rfl rfl hb171) rfl (rv_loadm1 tf3 rfl (.head _) hS163 rfl) ?_
                    refine wl_val (wg rfl rfl hb171) rfl (rv_move rfl) ?_
                    refine wl_val (wg rfl rfl hb171) rfl (rv_geq rfl rfl) ?_
                    refine wl_val wn rfl (rv_pick_f rfl hb171 rfl) ?_
                    refine wl_nil ?_
                    obtain rfl := Option.some.inj h172
                    have hS175 : SH _ _ _ _ _ [_, _, _] := SH.front (p := [_, _]) hS163
                    have hS176 : SH _ _ _ _ _ [_, _, _] := SH.front (p := [_, _]) hS175
                    exact qe_mid' ⟨K130, rfl, hS176, (KLe.refl _)⟩ ⟨rfl, rfl, rfl, rfl, rfl, rfl, rfl, rfl, trivial⟩
                · rintro _ w169 ⟨K167, rfl, hS170, hl168⟩
                  refine qe_seq ?_
                  refine wc_cond rfl (fun hb177 => ?_) (fun hb177 => ?_)
                  · have h178 := cond_t hb177 h166
                    refine wc_seq ?_
                    refine wc_region ?_
                    refine wl_val wn rfl (rv_move rfl) ?_
                    refine wl_val wn rfl (rv_nilCheck rfl) ?_
                    refine wl_val wn rfl (rv_fieldAddr ff96_3 rfl) ?_
                    refine wl_store (cs' := [.slice a134 n135 c136, .slice a138 n139 c140, .int .i64 s125.steps_, .bool true]) (v := .bool true) wn tf4 rfl rfl rfl (by simp [Value.cells, Value.oneCell']) hS170 rfl rfl ?_
                    intro w179 hS180
                    refine wl_nil ?_
                    refine qe_seq ?_
                    refine wc_ret ?_
                    refine qe_then_ret ?_
                    refine qe_block_ret ?_
                    refine qe_then_ret ?_
                    refine qe_then_ret ?_
                    obtain rfl := Option.some.inj h178
                    have e181 := hx147 _ rfl
                    subst e181
                    refine qe_block_ret ?_
                    refine qe_then_ret ?_
                    obtain rfl := Option.some.inj h128
                    obtain rfl := Option.some.inj h110
                    have hS182 : SH _ _ _ _ _ [_, _] := SH.sublist hS180 (.cons_cons _ (.cons_cons _ (.cons _ .slnil)))
                    exact qe_ret (vs := []) Try.results81 trivial ⟨a134, n135, c136, a138, n139, c140, K167, rfl, hS182, (SliceAt.mono hl168 hs137), (SliceAt.mono hl168 hs141), hr142⟩
                  · have h178 := cond_f hb177 h166
                    refine wc_skip ?_
                    refine qe_seq ?_
                    refine wc_region ?_
                    refine wl_val wn rfl (rv_move rfl) ?_
                    refine wl_val wn rfl (rv_fieldAddr ff35_1 rfl) ?_
                    refine wl_val wn rfl (rv_loadm1 tf3 rfl (.tail _ (.tail _ (.head _))) hS170 rfl) ?_
                    refine wl_val wn rfl (rv_move rfl) ?_
                    refine wl_val wn rfl (rv_fieldAddr ff35_0 rfl) ?_
                    refine wl_val wn rfl (rv_loadm1 tf5 rfl (.tail _ (.tail _ (.head _))) hS170 rfl) ?_
                    refine wl_buildSlice (t := tU8) (n := 1) (pv := [(0, iv8 x148.Byte)]) (cs := [iv8 x148.Byte]) (xs := [x148.Byte]) wn rfl Try.underlying22 tf5 rfl rfl rfl (by kernel_rfl) rfl rfl (lit_cons (u := iv8 x148.Byte) (z := x148.Byte) rfl lit_nil) hS170 ?_
                    intro a183 w184 K185 hl186 hs187 hS188
                    refine wl_val wn rfl (rv_b2s Try.underlying22 Try.underlying5 Try.underlying9 rfl hs187 hS188) ?_
                    obtain ⟨x189, hx190, h191⟩ := Option.bind_eq_some_iff.1 h178
                    refine wl_val wn rfl (rv_sadd rfl rfl hx190) ?_
                    obtain ⟨r192, hx193, h194⟩ := Option.bind_eq_some_iff.1 h191
                    have hS195 : SH _ _ _ _ _ [_, _, _, _] := SH.front (p := [_, _]) hS188
                    have hS196 : SH _ _ _ _ _ [_, _, _, _] := SH.front (p := [_, _]) hS195
                    refine wl_call wn rfl (rt_call (vs := [.pointer (some ⟨g1, 0, none⟩), .int .i64 x148.To, sv x189]) co81 rfl) (ih (SH.enter (Lin := [_, _]) hS196) (SliceAt.mono (hl168.trans hl186) hs137) (SliceAt.mono (hl168.trans hl186) hs141) hr142 hr156 (len_cat hx190) hx193) ?_
                    rintro e209 w198 ⟨a200, n201, c202, a204, n205, c206, K197, rfl, hS199, hs203, hs207, hr208⟩
                    refine ⟨_, rfl, ?_⟩
                    have hS210 : SH _ _ _ _ _ [_, _, _, _] := SH.call (Lin := [_, _]) hS196 hS199
                    refine wl_nil ?_
                    refine qe_block ?_
                    refine qe_seq (wc_region ?_)
                    refine wl_val wn rfl (rv_add_to rfl rfl (w64_succ hi145 (SliceAt.max (SliceAt.mono hl70 hs58)))) ?_
                    refine wl_val wn rfl (rv_move rfl) ?_
                    refine wl_nil ?_
                    obtain rfl := Option.some.inj h194
                    have hS211 : SH _ _ _ _ _ [_, _] := SH.sublist hS210 (.cons_cons _ (.cons_cons _ (.cons _ (.cons _ .slnil))))
                    exact qe_mid' ⟨_, rfl, a200, n201, c202, a204, n205, c206, K197, rfl, hS211, (((hl131.trans hl168).trans hl186).trans hS199.le), hs203, hs207, hr208⟩ ⟨rfl, rfl, rfl, rfl, rfl, rfl, trivial⟩
              · rintro s125 _ w132 hr212 ⟨a134, n135, c136, a138, n139, c140, K130, rfl, hS133, hl131, hs137, hs141, hr142⟩
                subst hr212
                refine wc_seq (wc_region ?_)
                refine wl_val wn rfl (rv_lss rfl rfl) ?_
                refine wl_nil (qe_seq (wc_seq ?_))
                refine wc_cond_f rfl (decide_eq_false (by omega)) ?_
                refine wc_exit ?_
                refine qe_then_exit ?_
                refine qe_then_exit ?_
                refine qe_block_eq ?_
                obtain rfl := Option.some.inj h128
                exact qe_mid' ⟨_, a134, n135, c136, a138, n139, c140, K130, rfl, rfl, hS133, hl131, hs137, hs141, hr142⟩ ⟨rfl, trivial⟩
            · rintro _ w114 ⟨s111, a116, n117, c118, a120, n121, c122, K112, rfl, rfl, hS115, hl113, hs119, hs123, hr124⟩
              refine qe_ret_normal ?_
              obtain rfl := Option.some.inj h110
              exact qe_ret (vs := []) Try.results81 trivial ⟨a116, n117, c118, a120, n121, c122, K112, rfl, hS115, hs119, hs123, hr124⟩

set_option maxHeartbeats 2000000 in
theorem ok_slices_EqualFunc_State__impl_sameState (F : Nat) {w : World} {K : KMap} {a1 : Option Addr} {n2 c3 : Nat} {a5 : Option Addr} {n6 c7 : Nat} {p0_s1 : List GState} {p1_s2 : List GState} {r : Bool} (hS : SH w K [] w K []) (hs4 : SliceAt tGState K a1 n2 c3 p0_s1) (hs8 : SliceAt tGState K a5 n6 c7 p1_s2) (hm : M.slices_EqualFunc_State__impl_sameState F p0_s1 p1_s2 = some r) :
    Calls Try.prog 82 #[.slice a1 n2 c3, .slice a5 n6 c7, .func (.func 76) #[] #[]] w fun e w' => ∃ (K' : KMap), e = .returned (.bool r) ∧ SH w K [] w' K' [] := by
  rw [M.slices_EqualFunc_State__impl_sameState] at hm
  refine calls_in Try.func82 rfl Try.ntmps82 rfl ?_
  refine wc_seq ?_
  refine wc_region ?_
  refine wl_val wn rfl (rv_assign (v := .bool false) rfl) ?_
  refine wl_nil ?_
  refine qe_seq ?_
  refine wc_seq ?_
  refine wc_seq ?_
  refine wc_region ?_
  refine wl_val wn rfl (rv_move rfl) ?_
  refine wl_val wn rfl (rv_len (t := tGState) Try.underlying28 rfl hs4) ?_
  refine wl_val wn rfl (rv_move rfl) ?_
  refine wl_val wn rfl (rv_len (t := tGState) Try.underlying28 rfl hs8) ?_
  refine wl_val wn rfl (rv_neq rfl rfl) ?_
  refine wl_nil ?_
  refine qe_seq ?_
  refine wc_cond rfl (fun hb9 => ?_) (fun hb9 => ?_)
  · have h10 := cond_t hb9 hm
    refine wc_seq ?_
    refine wc_region ?_
    refine wl_val wn rfl (rv_assign (v := .bool false) rfl) ?_
    refine wl_nil ?_
    refine qe_seq ?_
    refine wc_ret ?_
    refine qe_then_ret ?_
    obtain rfl := Option.some.inj h10
    exact qe_ret (vs := [_]) Try.results82 ⟨rfl, trivial⟩ ⟨K, rfl, hS⟩
  · have h10 := cond_f hb9 hm
    refine wc_skip ?_
    refine qe_seq ?_
    refine wc_seq ?_
    refine wc_seq ?_
    refine wc_region ?_
    refine wl_val wn rfl (rv_move rfl) ?_
    refine wl_val wn rfl (rv_len (t := tGState) Try.underlying28 rfl hs4) ?_
    refine wl_val wn rfl (rv_move (v := .int .i64 0) rfl) ?_
    refine wl_nil ?_
    refine qe_seq ?_
    obtain ⟨o11, h12, h13⟩ := Option.bind_eq_some_iff.1 h10
    refine wc_cutg (fun E' w' => ∃ (s14 : Unit) (K15 : KMap), o11 = .inl s14 ∧ E' = [] ∧ SH w K [] w' K15 [] ∧ KLe K K15) ?_ ?_
    · refine wc_block ?_
      obtain ⟨r20, h21, h22⟩ := Option.bind_eq_some_iff.1 h12
      refine wc_for' (fun (i23 : Nat) (s19 : Unit) E' w' => ∃ (K24 : KMap), E' = [(1, .slice a5 n6 c7), (2, .func (.func 76) #[] #[]), (15, .slice a1 n2 c3), (16, .int .i64 (p0_s1.length : Int)), (17, .int .i64 ((i23 : Nat) : Int))] ∧ SH w K [] w' K24 [] ∧ KLe K K24) h21 ⟨K, rfl, hS, (KLe.refl _)⟩ ⟨rfl, rfl, rfl, rfl, rfl, trivial⟩ ?_ ?_
      · rintro i23 s19 _ w26 r28 hi29 h30 hx31 ⟨K24, rfl, hS27, hl25⟩
        refine wc_seq (wc_region ?_)
        refine wl_val wn rfl (rv_lss rfl rfl) ?_
        refine wl_nil (qe_seq (wc_seq ?_))
        refine wc_cond_t rfl (decide_eq_true (by omega)) (wc_skip (qe_seq (wc_seq ?_)))
        refine wc_block ?_
        refine wc_seq ?_
        refine wc_region ?_
        refine wl_val wn rfl (rv_move rfl) ?_
        obtain ⟨x32, hx33, h34⟩ := Option.bind_eq_some_iff.1 h30
        refine wl_indexAddr (t := tGState) wn rfl Try.underlying28 tf33 rfl rfl (SliceAt.mono hl25 hs4) hx33 ?_
        intro b35 o36 u37 hu38 ha39
        obtain ⟨a41, n42, c43, rfl, hr40, hs44⟩ := hu38
        have ha45 : AtK _ b35 o36 [.bool x32.Final, .int .i64 x32.Many, .slice a41 n42 c43] := ha39
        refine wl_val wn rfl (rv_loadS (cs := [.bool x32.Final, .int .i64 x32.Many, .slice a41 n42 c43]) tf33 rfl hS27 ha45 rfl) ?_
        refine wl_alloc wn rfl tf33 hS27 ?_
        intro g46 w47 hS48
        have hS49 : SH _ _ _ _ _ [obj g46 [.bool false, .int .i64 0, .slice none 0 0] 33] := hS48
        refine wl_val wn rfl (rv_assign rfl) ?_
        refine wl_store (cs' := [.bool x32.Final, .int .i64 x32.Many, .slice a41 n42 c43]) (v := .agg #[.bool x32.Final, .int .i64 x32.Many, .slice a41 n42 c43]) wn tf33 rfl rfl rfl (by simp [Value.cells, Value.oneCell']) hS49 rfl rfl ?_
        intro w50 hS51
        refine wl_nil ?_
        refine qe_seq ?_
        refine wc_seq ?_
        refine wc_region ?_
        refine wl_val wn rfl (rv_move rfl) ?_
        refine wl_val wn rfl (rv_move rfl) ?_
        obtain ⟨x52, hx53, h54⟩ := Option.bind_eq_some_iff.1 h34
        refine wl_indexAddr (t := tGState) wn rfl Try.underlying28 tf33 rfl rfl (SliceAt.mono hl25 hs8) hx53 ?_
        intro b55 o56 u57 hu58 ha59
        obtain ⟨a61, n62, c63, rfl, hr60, hs64⟩ := hu58
        have ha65 : AtK _ b55 o56 [.bool x52.Final, .int .i64 x52.Many, .slice a61 n62 c63] := ha59
        refine wl_val wn rfl (rv_loadS (cs := [.bool x52.Final, .int .i64 x52.Many, .slice a61 n62 c63]) tf33 rfl hS51 ha65 rfl) ?_
        refine wl_alloc wn rfl tf33 hS51 ?_
        intro g66 w67 hS68
        have hS69 : SH _ _ _ _ _ [obj g66 [.bool false, .int .i64 0, .slice none 0 0] 33, _] := hS68
        refine wl_store (cs' := [.bool x52.Final, .int .i64 x52.Many, .slice a61 n62 c63]) (v := .agg #[.bool x52.Final, .int .i64 x52.Many, .slice a61 n62 c63]) wn tf33 rfl rfl rfl (by simp [Value.cells, Value.oneCell']) hS69 rfl rfl ?_
        intro w70 hS71
        refine wl_nil ?_
        refine qe_seq ?_
        refine wc_seq ?_
        refine wc_region ?_
        refine wl_val wn rfl (rv_move rfl) ?_
        refine wl_val wn rfl (rv_loadmS (ds := [.bool x32.Final, .int .i64 x32.Many, .slice a41 n42 c43]) tf33 rfl (.tail _ (.head _)) hS71 rfl rfl) ?_
        refine wl_val wn rfl (rv_loadmS (ds := [.bool x52.Final, .int .i64 x52.Many, .slice a61 n62 c63]) tf33 rfl (.head _) hS71 rfl rfl) ?_
        obtain ⟨r72, hx73, h74⟩ := Option.bind_eq_some_iff.1 h54
        refine wl_call wn rfl (rt_callv (vs := [.agg #[.bool x32.Final, .int .i64 x32.Many, .slice a41 n42 c43], .agg #[.bool x52.Final, .int .i64 x52.Many, .slice a61 n62 c63]]) (cap := #[]) co76 rfl rfl) ((ok_impl_sameState F) hS71.enter0 hr40 hs44 hr60 hs64 hx73) ?_
        rintro e78 w76 ⟨K75, rfl, hS77⟩
        refine ⟨_, rfl, ?_⟩
        have hS79 : SH _ _ _ _ _ [_, _] := SH.call0 hS71 hS77
        refine wl_val wn rfl (rv_not rfl) ?_
        refine wl_nil ?_
        refine qe_seq ?_
        refine wc_cond rfl (fun hb80 => ?_) (fun hb80 => ?_)
        · have h81 := cond_t hb80 h74
          refine wc_seq ?_
          refine wc_region ?_
          refine wl_val wn rfl (rv_assign (v := .bool false) rfl) ?_
          refine wl_nil ?_
          refine qe_seq ?_
          refine wc_ret ?_
          refine qe_block_ret ?_
          refine qe_then_ret ?_
          refine qe_then_ret ?_
          obtain rfl := Option.some.inj h81
          have e82 := hx31 _ rfl
          subst e82
          refine qe_block_ret ?_
          refine qe_then_ret ?_
          obtain rfl := Option.some.inj h22
          refine qe_then_ret ?_
          obtain rfl := Option.some.inj h13
          have hS83 : SH _ _ _ _ _ [] := SH.sublist hS79 (.cons _ (.cons _ .slnil))
          exact qe_ret (vs := [_]) Try.results82 ⟨rfl, trivial⟩ ⟨K75, rfl, hS83⟩
        · have h81 := cond_f hb80 h74
          refine wc_skip ?_
          refine qe_block ?_
          refine qe_seq (wc_region ?_)
          refine wl_val wn rfl (rv_add_to rfl rfl (w64_succ hi29 (SliceAt.max hs4))) ?_
          refine wl_val wn rfl (rv_move rfl) ?_
          refine wl_nil ?_
          obtain rfl := Option.some.inj h81
          have hS84 : SH _ _ _ _ _ [] := SH.sublist hS79 (.cons _ (.cons _ .slnil))
          exact qe_mid' ⟨_, rfl, K75, rfl, hS84, (hl25.trans hS77.le)⟩ ⟨rfl, rfl, rfl, rfl, rfl, trivial⟩
      · rintro s19 _ w26 hr85 ⟨K24, rfl, hS27, hl25⟩
        subst hr85
        refine wc_seq (wc_region ?_)
        refine wl_val wn rfl (rv_lss rfl rfl) ?_
        refine wl_nil (qe_seq (wc_seq ?_))
        refine wc_cond_f rfl (decide_eq_false (by omega)) ?_
        refine wc_exit ?_
        refine qe_then_exit ?_
        refine qe_then_exit ?_
        refine qe_block_eq ?_
        obtain rfl := Option.some.inj h22
        exact qe_mid' ⟨_, K24, rfl, rfl, hS27, hl25⟩ trivial
    · rintro _ w17 ⟨s14, K15, rfl, rfl, hS18, hl16⟩
      refine qe_seq ?_
      refine wc_seq ?_
      refine wc_region ?_
      refine wl_val wn rfl (rv_assign (v := .bool true) rfl) ?_
      refine wl_nil ?_
      refine qe_seq ?_
      refine wc_ret ?_
      obtain rfl := Option.some.inj h13
      exact qe_ret (vs := [_]) Try.results82 ⟨rfl, trivial⟩ ⟨K15, rfl, hS18⟩

set_option maxHeartbeats 2000000 in
theorem ok_impl_wordsIn (F : Nat) {w : World} {K : KMap} {a1 : Option Addr} {n2 c3 : Nat} {p0_d : List GState} {r : (List Str) × Bool} (hS : SH w K [] w K []) (hs4 : SliceAt tGState K a1 n2 c3 p0_d) (hm : M.impl_wordsIn F p0_d = some r) :
    Calls Try.prog 63 #[.slice a1 n2 c3] w fun e w' => ∃ (a_1 : Option Addr) (n_2 c_3 : Nat) (K' : KMap), e = .returned (.tuple #[.slice a_1 n_2 c_3, .bool r.2]) ∧ SH w K [] w' K' [tail (.slice a_1 n_2 c_3) 9 1] ∧ SliceAt tStr K' a_1 n_2 c_3 r.1 := by
  rw [M.impl_wordsIn] at hm
  refine calls_in Try.func63 rfl Try.ntmps63 rfl ?_
  refine wc_seq ?_
  refine wc_region ?_
  refine wl_val wn rfl (rv_assign (v := .slice none 0 0) rfl) ?_
  refine wl_val wn rfl (rv_assign (v := .bool false) rfl) ?_
  refine wl_nil ?_
  refine qe_seq ?_
  refine wc_seq ?_
  refine wc_seq ?_
  refine wc_region ?_
  refine wl_val wn rfl (rv_move rfl) ?_
  refine wl_val wn rfl (rv_len (t := tGState) Try.underlying28 rfl hs4) ?_
  refine wl_val wn rfl (rv_eql rfl rfl) ?_
  refine wl_nil ?_
  refine qe_seq ?_
  refine wc_cond rfl (fun hb5 => ?_) (fun hb5 => ?_)
  · have h6 := cond_t hb5 hm
    refine wc_seq ?_
    refine wc_region ?_
    refine wl_val wn rfl (rv_assign (v := .slice none 0 0) rfl) ?_
    refine wl_val wn rfl (rv_assign (v := .bool false) rfl) ?_
    refine wl_nil ?_
    refine qe_seq ?_
    refine wc_ret ?_
    refine qe_then_ret ?_
    obtain rfl := Option.some.inj h6
    have hS7 := SH.nil hS 9 1
    exact qe_ret (vs := [_, _]) Try.results63 ⟨rfl, rfl, trivial⟩ ⟨none, 0, 0, K, rfl, hS7, (SliceAt.nil _ _)⟩
  · have h6 := cond_f hb5 hm
    refine wc_skip ?_
    refine qe_seq ?_
    refine wc_seq ?_
    refine wc_region ?_
    refine wl_val wn rfl (rv_move rfl) ?_
    refine wl_buildSlice0 tStr wn rfl Try.underlying26 tf9 hS ?_
    intro a8 w9 K10 hl11 hs12 hS13
    refine wl_val wn rfl (rv_build (cs := #[.slice a1 n2 c3, .slice a8 0 0, .int .i64 0, .bool false]) sp96 tf96 rfl (by kernel_rfl)) ?_
    refine wl_box wn rfl rfl hS13 ?_
    intro g14 w15 hS16
    have hS17 : SH _ _ _ _ _ [obj g14 [.slice a1 n2 c3, .slice a8 0 0, .int .i64 0, .bool false] 96, _] := hS16
    refine wl_val wn rfl (rv_assign rfl) ?_
    refine wl_nil ?_
    refine qe_seq ?_
    refine wc_seq ?_
    refine wc_region ?_
    refine wl_val wn rfl (rv_move rfl) ?_
    refine wl_val wn rfl (rv_move rfl) ?_
    refine wl_val wn rfl (rv_len (t := tGState) Try.underlying28 rfl (SliceAt.mono hl11 hs4)) ?_
    refine wl_val wn rfl (rv_sub rfl rfl) ?_
    obtain ⟨r18, hx19, h20⟩ := Option.bind_eq_some_iff.1 h6
    have hS21 : SH _ _ _ _ _ [_, _] := SH.front (p := [_]) hS17
    have hS22 : SH _ _ _ _ _ [_, _] := SH.front (p := [_]) hS21
    refine wl_call wn rfl (rt_call (vs := [.pointer (some ⟨g14, 0, none⟩), .int .i64 (w64 ((p0_d.length : Int) - (1 : Int))), sv []]) co81 rfl) ((ok_impl_lister_visit F (p0_l := (GLister.mk p0_d ([] : List Str) (0 : Int) false))) (SH.enter (Lin := [_, _]) hS22) (SliceAt.mono hl11 hs4) hs12 (by decide : rng64 0) (w64_rng _) (by decide : ([] : Str).length ≤ maxLen) hx19) ?_
    rintro e35 w24 ⟨a26, n27, c28, a30, n31, c32, K23, rfl, hS25, hs29, hs33, hr34⟩
    refine ⟨_, rfl, ?_⟩
    have hS36 : SH _ _ _ _ _ [_, _] := SH.call (Lin := [_, _]) hS22 hS25
    refine wl_nil ?_
    refine qe_seq ?_
    refine wc_seq ?_
    refine wc_seq ?_
    obtain ⟨o37, h38, h39⟩ := Option.bind_eq_some_iff.1 h20
    refine wc_cutg (fun E' w' => ∃ (K40 : KMap), E' = [(4, .pointer (some ⟨g14, 0, none⟩)), (38, .bool o37)] ∧ SH w K [] w' K40 [obj g14 [.slice a26 n27 c28, .slice a30 n31 c32, .int .i64 r18.steps_, .bool r18.bad_] 96, tail (.slice a30 n31 c32) 9 1] ∧ KLe K23 K40) ?_ ?_
    · refine wc_region ?_
      refine wl_val wn rfl (rv_move rfl) ?_
      refine wl_val wn rfl (rv_nilCheck rfl) ?_
      refine wl_val wn rfl (rv_fieldAddr ff96_3 rfl) ?_
      refine wl_val wn rfl (rv_loadm1 tf4 rfl (.head _) hS36 rfl) ?_
      refine wl_val wn rfl (rv_move rfl) ?_
      rcases bool_tf (r18.bad_) with hb44 | hb44
      · have h45 := cond_t hb44 h38
        refine wl_un (ug rfl rfl hb44) rfl ?_
        refine wl_un (ug rfl rfl hb44) rfl ?_
        refine wl_un (ug rfl rfl hb44) rfl ?_
        refine wl_un (ug rfl rfl hb44) rfl ?_
        refine wl_un (ug rfl rfl hb44) rfl ?_
        refine wl_un (ug rfl rfl hb44) rfl ?_
        refine wl_val wn rfl (rv_pick_t (v := .bool true) rfl hb44 rfl) ?_
        refine wl_val wn rfl (rv_move rfl) ?_
        refine wl_un (ug rfl rfl rfl) rfl ?_
        refine wl_un (ug rfl rfl rfl) rfl ?_
        refine wl_un (ug rfl rfl rfl) rfl ?_
        refine wl_un (ug rfl rfl rfl) rfl ?_
        refine wl_un (ug rfl rfl rfl) rfl ?_
        refine wl_un (ug rfl rfl rfl) rfl ?_
        refine wl_un (ug rfl rfl rfl) rfl ?_
        refine wl_un (ug rfl rfl rfl) rfl ?_
        refine wl_val wn rfl (rv_pick_t (v := .bool true) rfl rfl rfl) ?_
        refine wl_nil ?_
        obtain rfl := Option.some.inj h45
        exact qe_mid' ⟨K23, rfl, hS36, (KLe.refl _)⟩ ⟨rfl, rfl, trivial⟩
      · have h45 := cond_f hb44 h38
        refine wl_val (wg rfl rfl hb44) rfl (rv_move rfl) ?_
        refine wl_val (wg rfl rfl hb44) rfl (rv_nilCheck rfl) ?_
        refine wl_val (wg rfl rfl hb44) rfl (rv_fieldAddr ff96_1 rfl) ?_
        refine wl_val (wg rfl rfl hb44) rfl (rv_loadm1 tf26 rfl (.head _) hS36 rfl) ?_
        obtain ⟨r46, hx47, h48⟩ := Option.bind_eq_some_iff.1 h45
        refine wl_call (wg rfl rfl hb44) rfl (rt_call (vs := [.slice a30 n31 c32]) co30 rfl) ((ok_impl_WordsUp F) hS36.enter0 hs33 hx47) ?_
        rintro e52 w50 ⟨K49, rfl, hS51⟩
        refine ⟨_, rfl, ?_⟩
        have hS53 : SH _ _ _ _ _ [_, _] := SH.call0 hS36 hS51
        refine wl_val (wg rfl rfl hb44) rfl (rv_not rfl) ?_
        refine wl_val wn rfl (rv_pick_f rfl hb44 rfl) ?_
        refine wl_val wn rfl (rv_move rfl) ?_
        rcases bool_tf ((!r46)) with hb54 | hb54
        · have h55 := cond_t hb54 h48
          refine wl_un (ug rfl rfl hb54) rfl ?_
          refine wl_un (ug rfl rfl hb54) rfl ?_
          refine wl_un (ug rfl rfl hb54) rfl ?_
          refine wl_un (ug rfl rfl hb54) rfl ?_
          refine wl_un (ug rfl rfl hb54) rfl ?_
          refine wl_un (ug rfl rfl hb54) rfl ?_
          refine wl_un (ug rfl rfl hb54) rfl ?_
          refine wl_un (ug rfl rfl hb54) rfl ?_
          refine wl_val wn rfl (rv_pick_t (v := .bool true) rfl hb54 rfl) ?_
          refine wl_nil ?_
          obtain rfl := Option.some.inj h55
          exact qe_mid' ⟨K49, rfl, hS53, hS51.le⟩ ⟨rfl, rfl, trivial⟩
        · have h55 := cond_f hb54 h48
          refine wl_val (wg rfl rfl hb54) rfl (rv_move rfl) ?_
          refine wl_val (wg rfl rfl hb54) rfl (rv_nilCheck rfl) ?_
          refine wl_val (wg rfl rfl hb54) rfl (rv_fieldAddr ff96_1 rfl) ?_
          refine wl_val (wg rfl rfl hb54) rfl (rv_loadm1 tf26 rfl (.head _) hS53 rfl) ?_
          obtain ⟨r56, hx57, h58⟩ := Option.bind_eq_some_iff.1 h55
          refine wl_call (wg rfl rfl hb54) rfl (rt_call (vs := [.slice a30 n31 c32]) co19 rfl) ((ok_impl_DawgOf F) hS53.enter0 (SliceAt.mono hS51.le hs33) hx57) ?_
          rintro e66 w60 ⟨a62, n63, c64, K59, rfl, hS61, hs65⟩
          refine ⟨_, rfl, ?_⟩
          have hS67 : SH _ _ _ _ _ [_, _, _] := SH.call0 hS53 hS61
          refine wl_val (wg rfl rfl hb54) rfl (rv_move rfl) ?_
          obtain ⟨r68, hx69, h70⟩ := Option.bind_eq_some_iff.1 h58
          refine wl_call (wg rfl rfl hb54) rfl (rt_call (vs := [.slice a62 n63 c64, .slice a1 n2 c3, .func (.func 76) #[] #[]]) co82 rfl) ((ok_slices_EqualFunc_State__impl_sameState F) hS67.enter0 hs65 (SliceAt.mono (((hl11.trans hS25.le).trans hS51.le).trans hS61.le) hs4) hx69) ?_
          rintro e74 w72 ⟨K71, rfl, hS73⟩
          refine ⟨_, rfl, ?_⟩
          have hS75 : SH _ _ _ _ _ [_, _, _] := SH.call0 hS67 hS73
          refine wl_val (wg rfl rfl hb54) rfl (rv_not rfl) ?_
          refine wl_val wn rfl (rv_pick_f rfl hb54 rfl) ?_
          refine wl_nil ?_
          obtain rfl := Option.some.inj h70
          have hS76 : SH _ _ _ _ _ [_, _] := SH.sublist hS75 (.cons _ (.cons_cons _ (.cons_cons _ .slnil)))
          exact qe_mid' ⟨K71, rfl, hS76, ((hS51.le.trans hS61.le).trans hS73.le)⟩ ⟨rfl, rfl, trivial⟩
    · rintro _ w42 ⟨K40, rfl, hS43, hl41⟩
      refine qe_seq ?_
      refine wc_cond rfl (fun hb77 => ?_) (fun hb77 => ?_)
      · have h78 := cond_t hb77 h39
        refine wc_seq ?_
        refine wc_region ?_
        refine wl_val wn rfl (rv_assign (v := .slice none 0 0) rfl) ?_
        refine wl_val wn rfl (rv_assign (v := .bool false) rfl) ?_
        refine wl_nil ?_
        refine qe_seq ?_
        refine wc_ret ?_
        refine qe_then_ret ?_
        obtain rfl := Option.some.inj h78
        have hS79 := SH.nil hS43 9 1
        have hS80 : SH _ _ _ _ _ [_] := SH.sublist hS79 (.cons_cons _ (.cons _ (.cons _ .slnil)))
        exact qe_ret (vs := [_, _]) Try.results63 ⟨rfl, rfl, trivial⟩ ⟨none, 0, 0, K40, rfl, hS80, (SliceAt.nil _ _)⟩
      · have h78 := cond_f hb77 h39
        refine wc_skip ?_
        refine qe_seq ?_
        refine wc_seq ?_
        refine wc_region ?_
        refine wl_val wn rfl (rv_move rfl) ?_
        refine wl_val wn rfl (rv_nilCheck rfl) ?_
        refine wl_val wn rfl (rv_fieldAddr ff96_1 rfl) ?_
        refine wl_val wn rfl (rv_loadm1 tf26 rfl (.head _) hS43 rfl) ?_
        refine wl_val wn rfl (rv_assign rfl) ?_
        refine wl_val wn rfl (rv_assign (v := .bool true) rfl) ?_
        refine wl_nil ?_
        refine qe_seq ?_
        refine wc_ret ?_
        obtain rfl := Option.some.inj h78
        have hS81 : SH _ _ _ _ _ [_] := SH.sublist hS43 (.cons _ (.cons_cons _ .slnil))
        exact qe_ret (vs := [_, _]) Try.results63 ⟨rfl, rfl, trivial⟩ ⟨a30, n31, c32, K40, rfl, hS81, (SliceAt.mono hl41 hs33)⟩

theorem ok_slices_Index_string (F : Nat) {w : World} {K : KMap} {a1 : Option Addr} {n2 c3 : Nat} {p0_s : List Str} {p1_v : Str} {r : Int} (hS : SH w K [] w K []) (hs4 : SliceAt tStr K a1 n2 c3 p0_s) (hl5 : p1_v.length ≤ maxLen) (hm : M.slices_Index_string F p0_s p1_v = some r) :
    Calls Try.prog 64 #[.slice a1 n2 c3, sv p1_v] w fun e w' => ∃ (K' : KMap), e = .returned (.int .i64 r) ∧ SH w K [] w' K' [] ∧ rng64 r := by
  rw [M.slices_Index_string] at hm
  refine calls_in Try.func64 rfl Try.ntmps64 rfl ?_
  refine wc_seq ?_
  refine wc_region ?_
  refine wl_val wn rfl (rv_assign (v := .int .i64 0) rfl) ?_
  refine wl_nil ?_
  refine qe_seq ?_
  refine wc_seq ?_
  refine wc_seq ?_
  refine wc_region ?_
  refine wl_val wn rfl (rv_move rfl) ?_
  refine wl_val wn rfl (rv_len (t := tStr) Try.underlying26 rfl hs4) ?_
  refine wl_val wn rfl (rv_move (v := .int .i64 0) rfl) ?_
  refine wl_nil ?_
  refine qe_seq ?_
  obtain ⟨o6, h7, h8⟩ := Option.bind_eq_some_iff.1 hm
  refine wc_cutg (fun E' w' => ∃ (s9 : Unit) (K10 : KMap), o6 = .inl s9 ∧ E' = [] ∧ SH w K [] w' K10 [] ∧ KLe K K10) ?_ ?_
  · refine wc_block ?_
    obtain ⟨r15, h16, h17⟩ := Option.bind_eq_some_iff.1 h7
    refine wc_for' (fun (i18 : Nat) (s14 : Unit) E' w' => ∃ (K19 : KMap), E' = [(0, .slice a1 n2 c3), (1, sv p1_v), (7, .int .i64 (p0_s.length : Int)), (8, .int .i64 ((i18 : Nat) : Int))] ∧ SH w K [] w' K19 [] ∧ KLe K K19) h16 ⟨K, rfl, hS, (KLe.refl _)⟩ ⟨rfl, rfl, rfl, rfl, trivial⟩ ?_ ?_
    · rintro i18 s14 _ w21 r23 hi24 h25 hx26 ⟨K19, rfl, hS22, hl20⟩
      refine wc_seq (wc_region ?_)
      refine wl_val wn rfl (rv_lss rfl rfl) ?_
      refine wl_nil (qe_seq (wc_seq ?_))
      refine wc_cond_t rfl (decide_eq_true (by omega)) (wc_skip (qe_seq (wc_seq ?_)))
      refine wc_block ?_
      refine wc_seq ?_
      refine wc_region ?_
      refine wl_val wn rfl (rv_move rfl) ?_
      refine wl_val wn rfl (rv_assign rfl) ?_
      refine wl_nil ?_
      refine qe_seq ?_
      refine wc_seq ?_
      refine wc_region ?_
      refine wl_val wn rfl (rv_move rfl) ?_
      refine wl_val wn rfl (rv_move rfl) ?_
      refine wl_val wn rfl (rv_move rfl) ?_
      obtain ⟨x27, hx28, h29⟩ := Option.bind_eq_some_iff.1 h25
      refine wl_indexAddr (t := tStr) wn rfl Try.underlying26 tf9 rfl rfl (SliceAt.mono hl20 hs4) hx28 ?_
      intro b30 o31 u32 hu33 ha34
      obtain ⟨rfl, hl35⟩ := hu33
      have ha36 : AtK _ b30 o31 [sv x27] := ha34
      refine wl_val wn rfl (rv_load1 tf9 rfl hS22 (ha36 0 _ rfl)) ?_
      refine wl_val wn rfl (rv_seql rfl rfl) ?_
      refine wl_nil ?_
      refine qe_seq ?_
      refine wc_cond rfl (fun hb37 => ?_) (fun hb37 => ?_)
      · have h38 := cond_t hb37 h29
        refine wc_seq ?_
        refine wc_region ?_
        refine wl_val wn rfl (rv_move rfl) ?_
        refine wl_val wn rfl (rv_assign rfl) ?_
        refine wl_nil ?_
        refine qe_seq ?_
        refine wc_ret ?_
        refine qe_block_ret ?_
        refine qe_then_ret ?_
        refine qe_then_ret ?_
        obtain rfl := Option.some.inj h38
        have e39 := hx26 _ rfl
        subst e39
        refine qe_block_ret ?_
        refine qe_then_ret ?_
        obtain rfl := Option.some.inj h17
        refine qe_then_ret ?_
        obtain rfl := Option.some.inj h8
        exact qe_ret (vs := [_]) Try.results64 ⟨rfl, trivial⟩ ⟨K19, rfl, hS22, (rng_idx hi24 (SliceAt.max hs4))⟩
      · have h38 := cond_f hb37 h29
        refine wc_skip ?_
        refine qe_block ?_
        refine qe_seq (wc_region ?_)
        refine wl_val wn rfl (rv_add_to rfl rfl (w64_succ hi24 (SliceAt.max hs4))) ?_
        refine wl_val wn rfl (rv_move rfl) ?_
        refine wl_nil ?_
        obtain rfl := Option.some.inj h38
        exact qe_mid' ⟨_, rfl, K19, rfl, hS22, hl20⟩ ⟨rfl, rfl, rfl, rfl, trivial⟩
    · rintro s14 _ w21 hr40 ⟨K19, rfl, hS22, hl20⟩
      subst hr40
      refine wc_seq (wc_region ?_)
      refine wl_val wn rfl (rv_lss rfl rfl) ?_
      refine wl_nil (qe_seq (wc_seq ?_))
      refine wc_cond_f rfl (decide_eq_false (by omega)) ?_
      refine wc_exit ?_
      refine qe_then_exit ?_
      refine qe_then_exit ?_
      refine qe_block_eq ?_
      obtain rfl := Option.some.inj h17
      exact qe_mid' ⟨_, K19, rfl, rfl, hS22, hl20⟩ trivial
  · rintro _ w12 ⟨s9, K10, rfl, rfl, hS13, hl11⟩
    refine qe_seq ?_
    refine wc_seq ?_
    refine wc_region ?_
    refine wl_val wn rfl (rv_assign (v := .int .i64 (-1)) rfl) ?_
    refine wl_nil ?_
    refine qe_seq ?_
    refine wc_ret ?_
    obtain rfl := Option.some.inj h8
    exact qe_ret (vs := [_]) Try.results64 ⟨rfl, trivial⟩ ⟨K10, rfl, hS13, (by decide : rng64 (-1))⟩

theorem ok_impl_DawgRank (F : Nat) {w : World} {K : KMap} {a1 : Option Addr} {n2 c3 : Nat} {p0_d : List GState} {p1_s : Str} {r : Int} (hS : SH w K [] w K []) (hs4 : SliceAt tGState K a1 n2 c3 p0_d) (hl5 : p1_s.length ≤ maxLen) (hm : M.impl_DawgRank F p0_d p1_s = some r) :
    Calls Try.prog 32 #[.slice a1 n2 c3, sv p1_s] w fun e w' => ∃ (K' : KMap), e = .returned (.int .i64 r) ∧ SH w K [] w' K' [] ∧ rng64 r := by
  rw [M.impl_DawgRank] at hm
  refine calls_in Try.func32 rfl Try.ntmps32 rfl ?_
  refine wc_seq ?_
  refine wc_region ?_
  refine wl_val wn rfl (rv_assign (v := .int .i64 0) rfl) ?_
  refine wl_nil ?_
  refine qe_seq ?_
  refine wc_seq ?_
  refine wc_region ?_
  refine wl_val wn rfl (rv_move rfl) ?_
  obtain ⟨r6, hx7, h8⟩ := Option.bind_eq_some_iff.1 hm
  refine wl_call wn rfl (rt_call (vs := [.slice a1 n2 c3]) co63 rfl) ((ok_impl_wordsIn F) hS.enter0 hs4 hx7) ?_
  rintro e16 w10 ⟨a12, n13, c14, K9, rfl, hS11, hs15⟩
  refine ⟨_, rfl, ?_⟩
  have hS17 : SH _ _ _ _ _ [_] := SH.call0 hS hS11
  refine wl_val wn rfl (rv_move rfl) ?_
  refine wl_val wn rfl (rv_extract rfl rfl) ?_
  refine wl_val wn rfl (rv_extract rfl rfl) ?_
  refine wl_val wn rfl (rv_assign rfl) ?_
  refine wl_val wn rfl (rv_assign rfl) ?_
  refine wl_nil ?_
  refine qe_seq ?_
  refine wc_seq ?_
  refine wc_region ?_
  refine wl_val wn rfl (rv_move rfl) ?_
  refine wl_val wn rfl (rv_move rfl) ?_
  obtain ⟨r18, hx19, h20⟩ := Option.bind_eq_some_iff.1 h8
  refine wl_call wn rfl (rt_call (vs := [.slice a12 n13 c14, sv p1_s]) co64 rfl) ((ok_slices_Index_string F) hS17.enter0 hs15 hl5 hx19) ?_
  rintro e25 w22 ⟨K21, rfl, hS23, hr24⟩
  refine ⟨_, rfl, ?_⟩
  have hS26 : SH _ _ _ _ _ [_] := SH.call0 hS17 hS23
  refine wl_val wn rfl (rv_assign rfl) ?_
  refine wl_nil ?_
  refine qe_seq ?_
  refine wc_ret ?_
  obtain rfl := Option.some.inj h20
  have hS27 : SH _ _ _ _ _ [] := SH.sublist hS26 (.cons _ .slnil)
  exact qe_ret (vs := [_]) Try.results32 ⟨rfl, trivial⟩ ⟨K21, rfl, hS27, hr24⟩

theorem ok_spec_l30Open (F : Nat) {w : World} {K : KMap} {a1 : Option Addr} {n2 c3 : Nat} {p0_code : List UInt8} {r : GL30Rd} (hS : SH w K [] w K []) (hs4 : SliceAt tU8 K a1 n2 c3 p0_code) (hm : M.spec_l30Open F p0_code = some r) :
    Calls Try.prog 48 #[.slice a1 n2 c3] w fun e w' => ∃ (g_1 : Nat) (a_2 : Option Addr) (n_3 c_4 : Nat) (K' : KMap), e = .returned (.pointer (some ⟨g_1, 0, none⟩)) ∧ SH w K [] w' K' [obj g_1 [.slice a_2 n_3 c_4, .int .i64 r.p_] 90] ∧ SliceAt tU8 K' a_2 n_3 c_4 r.b_ ∧ rng64 r.p_ := by
  rw [M.spec_l30Open] at hm
  refine calls_in Try.func48 rfl Try.ntmps48 rfl ?_
  refine wc_seq ?_
  refine wc_region ?_
  refine wl_val wn rfl (rv_assign (v := .pointer none) rfl) ?_
  refine wl_nil ?_
  refine qe_seq ?_
  refine wc_seq ?_
  refine wc_seq ?_
  refine wc_region ?_
  refine wl_val wn rfl (rv_move rfl) ?_
  refine wl_val wn rfl (rv_len (t := tU8) Try.underlying22 rfl hs4) ?_
  refine wl_val wn rfl (rv_gtr rfl rfl) ?_
  refine wl_nil ?_
  refine qe_seq ?_
  refine wc_cond rfl (fun hb5 => ?_) (fun hb5 => ?_)
  · have h6 := cond_t hb5 hm
    refine wc_region ?_
    refine wl_val wn rfl (rv_move rfl) ?_
    obtain ⟨x7, hx8, h9⟩ := Option.bind_eq_some_iff.1 h6
    refine wl_sl_h (t := tU8) wn rfl Try.underlying22 tf5 rfl rfl hs4 hx8 ?_
    intro a10 n11 c12 hs13
    refine wl_val wn rfl (rv_assign rfl) ?_
    refine wl_nil ?_
    refine qe_seq ?_
    refine wc_seq ?_
    refine wc_region ?_
    refine wl_val wn rfl (rv_move rfl) ?_
    refine wl_val wn rfl (rv_build (cs := #[.slice a10 n11 c12, .int .i64 0]) sp90 tf90 rfl (by kernel_rfl)) ?_
    refine wl_box wn rfl rfl hS ?_
    intro g14 w15 hS16
    have hS17 : SH _ _ _ _ _ [obj g14 [.slice a10 n11 c12, .int .i64 0] 90] := hS16
    refine wl_val wn rfl (rv_assign rfl) ?_
    refine wl_nil ?_
    refine qe_seq ?_
    refine wc_ret ?_
    obtain rfl := Option.some.inj h9
    exact qe_ret (vs := [_]) Try.results48 ⟨rfl, trivial⟩ ⟨g14, a10, n11, c12, K, rfl, hS17, hs13, (by decide : rng64 0)⟩
  · have h6 := cond_f hb5 hm
    refine wc_skip ?_
    refine qe_seq ?_
    refine wc_seq ?_
    refine wc_region ?_
    refine wl_val wn rfl (rv_move rfl) ?_
    refine wl_val wn rfl (rv_build (cs := #[.slice a1 n2 c3, .int .i64 0]) sp90 tf90 rfl (by kernel_rfl)) ?_
    refine wl_box wn rfl rfl hS ?_
    intro g18 w19 hS20
    have hS21 : SH _ _ _ _ _ [obj g18 [.slice a1 n2 c3, .int .i64 0] 90] := hS20
    refine wl_val wn rfl (rv_assign rfl) ?_
    refine wl_nil ?_
    refine qe_seq ?_
    refine wc_ret ?_
    obtain rfl := Option.some.inj h6
    exact qe_ret (vs := [_]) Try.results48 ⟨rfl, trivial⟩ ⟨g18, a1, n2, c3, K, rfl, hS21, hs4, (by decide : rng64 0)⟩

set_option maxHeartbeats 2000000 in
theorem ok_spec_l30Rd_pick (F : Nat) {w : World} {K : KMap} {g1 : Nat} {a2 : Option Addr} {n3 c4 : Nat} {p0_r : GL30Rd} {p1_n : Int} {r : Int × GL30Rd} (hS : SH w K (List.filterMap Item.g [obj g1 [.slice a2 n3 c4, .int .i64 p0_r.p_] 90]) w K [obj g1 [.slice a2 n3 c4, .int .i64 p0_r.p_] 90]) (hs5 : SliceAt tU8 K a2 n3 c4 p0_r.b_) (hr6 : rng64 p0_r.p_) (hr7 : rng64 p1_n) (hm : M.spec_l30Rd_pick F p0_r p1_n = some r) :
    Calls Try.prog 61 #[.pointer (some ⟨g1, 0, none⟩), .int .i64 p1_n] w fun e w' => ∃ (a_2 : Option Addr) (n_3 c_4 : Nat) (K' : KMap), e = .returned (.int .i64 r.1) ∧ SH w K (List.filterMap Item.g [obj g1 [.slice a2 n3 c4, .int .i64 p0_r.p_] 90]) w' K' [obj g1 [.slice a_2 n_3 c_4, .int .i64 r.2.p_] 90] ∧ rng64 r.1 ∧ SliceAt tU8 K' a_2 n_3 c_4 r.2.b_ ∧ rng64 r.2.p_ := by
  rw [M.spec_l30Rd_pick] at hm
  refine calls_in Try.func61 rfl Try.ntmps61 rfl ?_
  refine wc_seq ?_
  refine wc_region ?_
  refine wl_val wn rfl (rv_assign (v := .int .i64 0) rfl) ?_
  refine wl_nil ?_
  refine qe_seq ?_
  refine wc_seq ?_
  refine wc_region ?_
  refine wl_val wn rfl (rv_move rfl) ?_
  refine wl_val wn rfl (rv_move rfl) ?_
  refine wl_val wn rfl (rv_nilCheck rfl) ?_
  refine wl_val wn rfl (rv_fieldAddr ff90_1 rfl) ?_
  refine wl_val wn rfl (rv_loadm1 tf3 rfl (.head _) hS rfl) ?_
  refine wl_val wn rfl (rv_add rfl rfl) ?_
  refine wl_val wn rfl (rv_nilCheck rfl) ?_
  refine wl_val wn rfl (rv_fieldAddr ff90_1 rfl) ?_
  refine wl_store (cs' := [.slice a2 n3 c4, .int .i64 (w64 (p0_r.p_ + (1 : Int)))]) (v := .int .i64 (w64 (p0_r.p_ + (1 : Int)))) wn tf3 rfl rfl rfl (by simp [Value.cells, Value.oneCell']) hS rfl rfl ?_
  intro w8 hS9
  refine wl_nil ?_
  refine qe_seq ?_
  refine wc_seq ?_
  refine wc_seq ?_
  obtain ⟨o10, h11, h12⟩ := Option.bind_eq_some_iff.1 hm
  refine wc_cutg (fun E' w' => ∃ (K13 : KMap), E' = [(0, .pointer (some ⟨g1, 0, none⟩)), (1, .int .i64 p1_n), (24, .bool o10)] ∧ SH w K (List.filterMap Item.g [obj g1 [.slice a2 n3 c4, .int .i64 p0_r.p_] 90]) w' K13 [obj g1 [.slice a2 n3 c4, .int .i64 (w64 (p0_r.p_ + (1 : Int)))] 90] ∧ KLe K K13) ?_ ?_
  · refine wc_region ?_
    refine wl_val wn rfl (rv_move rfl) ?_
    refine wl_val wn rfl (rv_lss rfl rfl) ?_
    refine wl_val wn rfl (rv_move rfl) ?_
    rcases bool_tf (decide (p1_n < (1 : Int))) with hb17 | hb17
    · have h18 := cond_t hb17 h11
      refine wl_un (ug rfl rfl hb17) rfl ?_
      refine wl_un (ug rfl rfl hb17) rfl ?_
      refine wl_un (ug rfl rfl hb17) rfl ?_
      refine wl_un (ug rfl rfl hb17) rfl ?_
      refine wl_un (ug rfl rfl hb17) rfl ?_
      refine wl_un (ug rfl rfl hb17) rfl ?_
      refine wl_val wn rfl (rv_pick_t (v := .bool true) rfl hb17 rfl) ?_
      refine wl_nil ?_
      obtain rfl := Option.some.inj h18
      exact qe_mid' ⟨K, rfl, hS9, (KLe.refl _)⟩ ⟨rfl, rfl, rfl, trivial⟩
    · have h18 := cond_f hb17 h11
      refine wl_val (wg rfl rfl hb17) rfl (rv_move rfl) ?_
      refine wl_val (wg rfl rfl hb17) rfl (rv_nilCheck rfl) ?_
      refine wl_val (wg rfl rfl hb17) rfl (rv_fieldAddr ff90_0 rfl) ?_
      refine wl_val (wg rfl rfl hb17) rfl (rv_loadm1 tf22 rfl (.head _) hS9 rfl) ?_
      refine wl_val (wg rfl rfl hb17) rfl (rv_len (t := tU8) Try.underlying22 rfl hs5) ?_
      refine wl_val (wg rfl rfl hb17) rfl (rv_eql rfl rfl) ?_
      refine wl_val wn rfl (rv_pick_f rfl hb17 rfl) ?_
      refine wl_nil ?_
      obtain rfl := Option.some.inj h18
      exact qe_mid' ⟨K, rfl, hS9, (KLe.refl _)⟩ ⟨rfl, rfl, rfl, trivial⟩
  · rintro _ w15 ⟨K13, rfl, hS16, hl14⟩
    refine qe_seq ?_
    refine wc_cond rfl (fun hb19 => ?_) (fun hb19 => ?_)
    · have h20 := cond_t hb19 h12
      refine wc_seq ?_
      refine wc_region ?_
      refine wl_val wn rfl (rv_assign (v := .int .i64 0) rfl) ?_
      refine wl_nil ?_
      refine qe_seq ?_
      refine wc_ret ?_
      refine qe_then_ret ?_
      obtain rfl := Option.some.inj h20
      exact qe_ret (vs := [_]) Try.results61 ⟨rfl, trivial⟩ ⟨a2, n3, c4, K13, rfl, hS16, (by decide : rng64 0), (SliceAt.mono hl14 hs5), (w64_rng _)⟩
    · have h20 := cond_f hb19 h12
      refine wc_skip ?_
      refine qe_seq ?_
      refine wc_seq ?_
      refine wc_region ?_
      refine wl_val wn rfl (rv_move rfl) ?_
      refine wl_val wn rfl (rv_nilCheck rfl) ?_
      refine wl_val wn rfl (rv_fieldAddr ff90_1 rfl) ?_
      refine wl_val wn rfl (rv_loadm1 tf3 rfl (.head _) hS16 rfl) ?_
      refine wl_val wn rfl (rv_sub rfl rfl) ?_
      refine wl_val wn rfl (rv_assign rfl) ?_
      refine wl_nil ?_
      refine qe_seq ?_
      refine wc_seq ?_
      refine wc_seq ?_
      refine wc_region ?_
      refine wl_val wn rfl (rv_move rfl) ?_
      refine wl_val wn rfl (rv_move rfl) ?_
      refine wl_val wn rfl (rv_nilCheck rfl) ?_
      refine wl_val wn rfl (rv_fieldAddr ff90_0 rfl) ?_
      refine wl_val wn rfl (rv_loadm1 tf22 rfl (.head _) hS16 rfl) ?_
      refine wl_val wn rfl (rv_len (t := tU8) Try.underlying22 rfl (SliceAt.mono hl14 hs5)) ?_
      refine wl_val wn rfl (rv_lss rfl rfl) ?_
      refine wl_nil ?_
      refine qe_seq ?_
      refine wc_cond rfl (fun hb21 => ?_) (fun hb21 => ?_)
      · have h22 := cond_t hb21 h20
        refine wc_seq ?_
        refine wc_region ?_
        refine wl_val wn rfl (rv_move rfl) ?_
        refine wl_val wn rfl (rv_nilCheck rfl) ?_
        refine wl_val wn rfl (rv_fieldAddr ff90_0 rfl) ?_
        refine wl_val wn rfl (rv_loadm1 tf22 rfl (.head _) hS16 rfl) ?_
        refine wl_val wn rfl (rv_move rfl) ?_
        obtain ⟨x23, hx24, h25⟩ := Option.bind_eq_some_iff.1 h22
        refine wl_indexAddr (t := tU8) wn rfl Try.underlying22 tf5 rfl rfl (SliceAt.mono hl14 hs5) hx24 ?_
        intro b26 o27 u28 hu29 ha30
        obtain rfl := hu29
        have ha31 : AtK _ b26 o27 [iv8 x23] := ha30
        refine wl_val wn rfl (rv_load1 tf5 rfl hS16 (ha31 0 _ rfl)) ?_
        refine wl_val wn rfl (rv_b2i Try.underlying5 Try.underlying3 rfl) ?_
        refine wl_val wn rfl (rv_move rfl) ?_
        obtain ⟨x32, hx33, h34⟩ := Option.bind_eq_some_iff.1 h25
        refine wl_val wn rfl (rv_rem rfl rfl hx33) ?_
        refine wl_val wn rfl (rv_assign rfl) ?_
        refine wl_nil ?_
        refine qe_seq ?_
        refine wc_ret ?_
        refine qe_then_ret ?_
        obtain rfl := Option.some.inj h34
        exact qe_ret (vs := [_]) Try.results61 ⟨rfl, trivial⟩ ⟨a2, n3, c4, K13, rfl, hS16, (rng_rem (rng_u8 _) hx33), (SliceAt.mono hl14 hs5), (w64_rng _)⟩
      · have h22 := cond_f hb21 h20
        refine wc_skip ?_
        refine qe_seq ?_
        refine wc_seq ?_
        refine wc_quiet mixed (by kernel_rfl) hS16 ?_
        refine wq_val wn rfl (fun _ _ => (rv_move rfl)) ?_
        refine wq_val wn rfl (fun _ _ => (rv_nilCheck rfl)) ?_
        refine wq_val wn rfl (fun _ _ => (rv_fieldAddr ff90_0 rfl)) ?_
        refine wq_val wn rfl (rq_loadm1 tf22 rfl (.head _) rfl) ?_
        refine wq_val wn rfl (fun _ _ => (rv_move rfl)) ?_
        refine wq_val wn rfl (fun _ _ => (rv_move rfl)) ?_
        refine wq_val wn rfl (fun _ _ => (rv_nilCheck rfl)) ?_
        refine wq_val wn rfl (fun _ _ => (rv_fieldAddr ff90_0 rfl)) ?_
        refine wq_val wn rfl (rq_loadm1 tf22 rfl (.head _) rfl) ?_
        refine wq_val wn rfl (fun _ _ => (rv_len (t := tU8) Try.underlying22 rfl (SliceAt.mono hl14 hs5))) ?_
        obtain ⟨x35, hx36, h37⟩ := Option.bind_eq_some_iff.1 h22
        refine wq_val wn rfl (fun _ _ => (rv_rem rfl rfl hx36)) ?_
        obtain ⟨x38, hx39, h40⟩ := Option.bind_eq_some_iff.1 h37
        refine wq_indexAddr (t := tU8) wn rfl Try.underlying22 tf5 rfl rfl (SliceAt.mono hl14 hs5) hx39 ?_
        intro b41 o42 u43 hu44 ha45
        obtain rfl := hu44
        have ha46 : AtK _ b41 o42 [iv8 x38] := ha45
        refine wq_val wn rfl (rq_load1 tf5 rfl (ha46 0 _ rfl)) ?_
        refine wq_val wn rfl (fun _ _ => (rv_b2i Try.underlying5 Try.underlying3 rfl)) ?_
        refine wq_val wn rfl (fun _ _ => (rv_mul rfl rfl)) ?_
        refine wq_val wn rfl (fun _ _ => (rv_move rfl)) ?_
        refine wq_val wn rfl (fun _ _ => (rv_nilCheck rfl)) ?_
        refine wq_val wn rfl (fun _ _ => (rv_fieldAddr ff90_0 rfl)) ?_
        refine wq_val wn rfl (rq_loadm1 tf22 rfl (.head _) rfl) ?_
        refine wq_val wn rfl (fun _ _ => (rv_move rfl)) ?_
        refine wq_val wn rfl (fun _ _ => (rv_mul rfl rfl)) ?_
        refine wq_val wn rfl (fun _ _ => (rv_add rfl rfl)) ?_
        refine wq_val wn rfl (fun _ _ => (rv_move rfl)) ?_
        refine wq_val wn rfl (fun _ _ => (rv_nilCheck rfl)) ?_
        refine wq_val wn rfl (fun _ _ => (rv_fieldAddr ff90_0 rfl)) ?_
        refine wq_val wn rfl (rq_loadm1 tf22 rfl (.head _) rfl) ?_
        refine wq_val wn rfl (fun _ _ => (rv_len (t := tU8) Try.underlying22 rfl (SliceAt.mono hl14 hs5))) ?_
        obtain ⟨x47, hx48, h49⟩ := Option.bind_eq_some_iff.1 h40
        refine wq_val wn rfl (fun _ _ => (rv_rem rfl rfl hx48)) ?_
        obtain ⟨x50, hx51, h52⟩ := Option.bind_eq_some_iff.1 h49
        refine wq_indexAddr (t := tU8) wn rfl Try.underlying22 tf5 rfl rfl (SliceAt.mono hl14 hs5) hx51 ?_
        intro b53 o54 u55 hu56 ha57
        obtain rfl := hu56
        have ha58 : AtK _ b53 o54 [iv8 x50] := ha57
        refine wq_val wn rfl (rq_load1 tf5 rfl (ha58 0 _ rfl)) ?_
        refine wq_val wn rfl (fun _ _ => (rv_b2i Try.underlying5 Try.underlying3 rfl)) ?_
        refine wq_val wn rfl (fun _ _ => (rv_mul rfl rfl)) ?_
        refine wq_val wn rfl (fun _ _ => (rv_add rfl rfl)) ?_
        refine wq_val wn rfl (fun _ _ => (rv_move rfl)) ?_
        refine wq_val wn rfl (fun _ _ => (rv_mul rfl rfl)) ?_
        refine wq_val wn rfl (fun _ _ => (rv_add rfl rfl)) ?_
        refine wq_val wn rfl (fun _ _ => (rv_move rfl)) ?_
        refine wq_val wn rfl (fun _ _ => (rv_move rfl)) ?_
        refine wq_val wn rfl (fun _ _ => (rv_nilCheck rfl)) ?_
        refine wq_val wn rfl (fun _ _ => (rv_fieldAddr ff90_0 rfl)) ?_
        refine wq_val wn rfl (rq_loadm1 tf22 rfl (.head _) rfl) ?_
        refine wq_val wn rfl (fun _ _ => (rv_len (t := tU8) Try.underlying22 rfl (SliceAt.mono hl14 hs5))) ?_
        obtain ⟨x59, hx60, h61⟩ := Option.bind_eq_some_iff.1 h52
        refine wq_val wn rfl (fun _ _ => (rv_quo rfl rfl hx60)) ?_
        refine wq_val wn rfl (fun _ _ => (rv_mul rfl rfl)) ?_
        refine wq_val wn rfl (fun _ _ => (rv_add rfl rfl)) ?_
        obtain ⟨x62, hx63, h64⟩ := Option.bind_eq_some_iff.1 h61
        have e65 := Option.some.inj hx63
        refine wq_val wn rfl (fun _ _ => (rv_as rfl (congrArg (Value.int .i64) e65))) ?_
        refine wq_nil ?_
        rintro w67 ⟨K66, hS68, hl69⟩
        refine qe_seq ?_
        refine wc_seq ?_
        refine wc_region ?_
        refine wl_val wn rfl (rv_move rfl) ?_
        refine wl_val wn rfl (rv_move rfl) ?_
        obtain ⟨x70, hx71, h72⟩ := Option.bind_eq_some_iff.1 h64
        refine wl_val wn rfl (rv_quo rfl rfl hx71) ?_
        refine wl_val wn rfl (rv_xor rfl rfl) ?_
        refine wl_val wn rfl (rv_assign rfl) ?_
        refine wl_nil ?_
        refine qe_seq ?_
        refine wc_seq ?_
        refine wc_region ?_
        refine wl_val wn rfl (rv_move rfl) ?_
        refine wl_val wn rfl (rv_move rfl) ?_
        obtain ⟨x73, hx74, h75⟩ := Option.bind_eq_some_iff.1 h72
        refine wl_val wn rfl (rv_rem rfl rfl hx74) ?_
        refine wl_val wn rfl (rv_assign rfl) ?_
        refine wl_nil ?_
        refine qe_seq ?_
        refine wc_ret ?_
        obtain rfl := Option.some.inj h75
        exact qe_ret (vs := [_]) Try.results61 ⟨rfl, trivial⟩ ⟨a2, n3, c4, K66, rfl, hS68, (rng_rem (w64_rng _) hx74), (SliceAt.mono (hl14.trans hl69) hs5), (w64_rng _)⟩
end Go.Proofs.Ytdopcpaapniioaa
