/-
  Walks of the functions. Printed by gen.py.
-/
import Derived.Test.YtajfhpaokbgmeaaWalkA3
set_option linter.unusedVariables false
namespace Go.Proofs.Ytajfhpaokbgmeaa
open Go Go.Fk Go.RowKit

theorem ok_impl_lister_visit (F : Nat) : ∀ {w : World} {K : KMap} {g1 : Nat} {a2 : Option Addr} {n3 c4 : Nat} {a6 : Option Addr} {n7 c8 : Nat} {p0_l : GLister} {p1_at : Int} {p2_head : Str} {r : GLister} (hS : SH w K (List.filterMap Item.g [obj g1 [.slice a2 n3 c4, .slice a6 n7 c8, .int .i64 p0_l.steps_, .bool p0_l.bad_] 146, tail (.slice a6 n7 c8) 9 1]) w K [obj g1 [.slice a2 n3 c4, .slice a6 n7 c8, .int .i64 p0_l.steps_, .bool p0_l.bad_] 146, tail (.slice a6 n7 c8) 9 1]) (hs5 : SliceAt tGState K a2 n3 c4 p0_l.d_) (hs9 : SliceAt tStr K a6 n7 c8 p0_l.words_) (hr10 : rng64 p0_l.steps_) (hr11 : rng64 p1_at) (hl12 : p2_head.length ≤ maxLen) (hm : M.impl_lister_visit F p0_l p1_at p2_head = some r),
    Calls Try.prog 108 #[.pointer (some ⟨g1, 0, none⟩), .int .i64 p1_at, sv p2_head] w fun e w' => ∃ (a_1 : Option Addr) (n_2 c_3 : Nat) (a_5 : Option Addr) (n_6 c_7 : Nat) (K' : KMap), e = .returned (.tuple #[]) ∧ SH w K (List.filterMap Item.g [obj g1 [.slice a2 n3 c4, .slice a6 n7 c8, .int .i64 p0_l.steps_, .bool p0_l.bad_] 146, tail (.slice a6 n7 c8) 9 1]) w' K' [obj g1 [.slice a_1 n_2 c_3, .slice a_5 n_6 c_7, .int .i64 r.steps_, .bool r.bad_] 146, tail (.slice a_5 n_6 c_7) 9 1] ∧ SliceAt tGState K' a_1 n_2 c_3 r.d_ ∧ SliceAt tStr K' a_5 n_6 c_7 r.words_ ∧ rng64 r.steps_ := by
  induction F with
  | zero => intros; rename_i hm; rw [M.impl_lister_visit] at hm; cases hm
  | succ F ih =>
    intro w K g1 a2 n3 c4 a6 n7 c8 p0_l p1_at p2_head r hS hs5 hs9 hr10 hr11 hl12 hm
    rw [M.impl_lister_visit] at hm
    refine calls_in Try.func108 rfl Try.ntmps108 rfl ?_
    refine wc_seq ?_
    refine wc_region ?_
    refine wl_val wn rfl (rv_move rfl) ?_
    refine wl_val wn rfl (rv_nilCheck rfl) ?_
    refine wl_val wn rfl (rv_fieldAddr ff146_2 rfl) ?_
    refine wl_val wn rfl (rv_loadm1 tf3 rfl (.head _) hS rfl) ?_
    refine wl_val wn rfl (rv_add rfl rfl) ?_
    refine wl_val wn rfl (rv_nilCheck rfl) ?_
    refine wl_val wn rfl (rv_fieldAddr ff146_2 rfl) ?_
    refine wl_store (cs' := [.slice a2 n3 c4, .slice a6 n7 c8, .int .i64 (w64 (p0_l.steps_ + (1 : Int))), .bool p0_l.bad_]) (v := .int .i64 (w64 (p0_l.steps_ + (1 : Int)))) wn tf3 rfl rfl rfl (by simp [Value.cells, Value.oneCell']) hS rfl rfl ?_
    intro w13 hS14
    refine wl_nil ?_
    refine qe_seq ?_
    refine wc_seq ?_
    refine wc_seq ?_
    obtain ⟨o15, h16, h17⟩ := Option.bind_eq_some_iff.1 hm
    refine wc_cutg (fun E' w' => ∃ (K18 : KMap), E' = [(0, .pointer (some ⟨g1, 0, none⟩)), (1, .int .i64 p1_at), (2, sv p2_head), (25, .bool o15)] ∧ SH w K (List.filterMap Item.g [obj g1 [.slice a2 n3 c4, .slice a6 n7 c8, .int .i64 p0_l.steps_, .bool p0_l.bad_] 146, tail (.slice a6 n7 c8) 9 1]) w' K18 [obj g1 [.slice a2 n3 c4, .slice a6 n7 c8, .int .i64 (w64 (p0_l.steps_ + (1 : Int))), .bool p0_l.bad_] 146, tail (.slice a6 n7 c8) 9 1] ∧ KLe K K18) ?_ ?_
    · refine wc_region ?_
      refine wl_val wn rfl (rv_move rfl) ?_
      refine wl_val wn rfl (rv_nilCheck rfl) ?_
      refine wl_val wn rfl (rv_fieldAddr ff146_2 rfl) ?_
      refine wl_val wn rfl (rv_loadm1 tf3 rfl (.head _) hS14 rfl) ?_
      refine wl_val wn rfl (rv_gtr rfl rfl) ?_
      refine wl_val wn rfl (rv_move rfl) ?_
      rcases bool_tf (decide ((560 : Int) < (w64 (p0_l.steps_ + (1 : Int))))) with hb22 | hb22
      · have h23 := cond_t hb22 h16
        refine wl_un (ug rfl rfl hb22) rfl ?_
        refine wl_un (ug rfl rfl hb22) rfl ?_
        refine wl_un (ug rfl rfl hb22) rfl ?_
        refine wl_val wn rfl (rv_pick_t (v := .bool true) rfl hb22 rfl) ?_
        refine wl_nil ?_
        obtain rfl := Option.some.inj h23
        exact qe_mid' ⟨K, rfl, hS14, (KLe.refl _)⟩ ⟨rfl, rfl, rfl, rfl, trivial⟩
      · have h23 := cond_f hb22 h16
        refine wl_val (wg rfl rfl hb22) rfl (rv_move rfl) ?_
        refine wl_val (wg rfl rfl hb22) rfl (rv_slen Try.underlying9 rfl) ?_
        refine wl_val (wg rfl rfl hb22) rfl (rv_gtr rfl rfl) ?_
        refine wl_val wn rfl (rv_pick_f rfl hb22 rfl) ?_
        refine wl_nil ?_
        obtain rfl := Option.some.inj h23
        exact qe_mid' ⟨K, rfl, hS14, (KLe.refl _)⟩ ⟨rfl, rfl, rfl, rfl, trivial⟩
    · rintro _ w20 ⟨K18, rfl, hS21, hl19⟩
      refine qe_seq ?_
      obtain ⟨o24, h25, h26⟩ := Option.bind_eq_some_iff.1 h17
      refine wc_cutg (fun E' w' => ∃ (a31 : Option Addr) (n32 c33 : Nat) (a35 : Option Addr) (n36 c37 : Nat) (K27 : KMap), E' = [(0, .pointer (some ⟨g1, 0, none⟩)), (1, .int .i64 p1_at), (2, sv p2_head)] ∧ SH w K (List.filterMap Item.g [obj g1 [.slice a2 n3 c4, .slice a6 n7 c8, .int .i64 p0_l.steps_, .bool p0_l.bad_] 146, tail (.slice a6 n7 c8) 9 1]) w' K27 [obj g1 [.slice a31 n32 c33, .slice a35 n36 c37, .int .i64 o24.steps_, .bool o24.bad_] 146, tail (.slice a35 n36 c37) 9 1] ∧ KLe K18 K27 ∧ SliceAt tGState K27 a31 n32 c33 o24.d_ ∧ SliceAt tStr K27 a35 n36 c37 o24.words_ ∧ rng64 o24.steps_) ?_ ?_
      · refine wc_cond rfl (fun hb40 => ?_) (fun hb40 => ?_)
        · have h41 := cond_t hb40 h25
          refine wc_region ?_
          refine wl_val wn rfl (rv_move rfl) ?_
          refine wl_val wn rfl (rv_nilCheck rfl) ?_
          refine wl_val wn rfl (rv_fieldAddr ff146_3 rfl) ?_
          refine wl_store (cs' := [.slice a2 n3 c4, .slice a6 n7 c8, .int .i64 (w64 (p0_l.steps_ + (1 : Int))), .bool true]) (v := .bool true) wn tf4 rfl rfl rfl (by simp [Value.cells, Value.oneCell']) hS21 rfl rfl ?_
          intro w42 hS43
          refine wl_nil ?_
          obtain rfl := Option.some.inj h41
          exact qe_mid' ⟨a2, n3, c4, a6, n7, c8, K18, rfl, hS43, (KLe.refl _), (SliceAt.mono hl19 hs5), (SliceAt.mono hl19 hs9), (w64_rng _)⟩ ⟨rfl, rfl, rfl, trivial⟩
        · have h41 := cond_f hb40 h25
          refine wc_skip ?_
          obtain rfl := Option.some.inj h41
          exact qe_mid' ⟨a2, n3, c4, a6, n7, c8, K18, rfl, hS21, (KLe.refl _), (SliceAt.mono hl19 hs5), (SliceAt.mono hl19 hs9), (w64_rng _)⟩ ⟨rfl, rfl, rfl, trivial⟩
      · rintro _ w29 ⟨a31, n32, c33, a35, n36, c37, K27, rfl, hS30, hl28, hs34, hs38, hr39⟩
        refine qe_seq ?_
        refine wc_seq ?_
        refine wc_seq ?_
        refine wc_region ?_
        refine wl_val wn rfl (rv_move rfl) ?_
        refine wl_val wn rfl (rv_nilCheck rfl) ?_
        refine wl_val wn rfl (rv_fieldAddr ff146_3 rfl) ?_
        refine wl_val wn rfl (rv_loadm1 tf4 rfl (.head _) hS30 rfl) ?_
        refine wl_nil ?_
        refine qe_seq ?_
        refine wc_cond rfl (fun hb44 => ?_) (fun hb44 => ?_)
        · have h45 := cond_t hb44 h26
          refine wc_ret ?_
          refine qe_then_ret ?_
          obtain rfl := Option.some.inj h45
          exact qe_ret (vs := []) Try.results108 trivial ⟨a31, n32, c33, a35, n36, c37, K27, rfl, hS30, hs34, hs38, hr39⟩
        · have h45 := cond_f hb44 h26
          refine wc_skip ?_
          refine qe_seq ?_
          refine wc_seq ?_
          refine wc_region ?_
          refine wl_val wn rfl (rv_move rfl) ?_
          refine wl_val wn rfl (rv_nilCheck rfl) ?_
          refine wl_val wn rfl (rv_fieldAddr ff146_0 rfl) ?_
          refine wl_val wn rfl (rv_loadm1 tf54 rfl (.head _) hS30 rfl) ?_
          refine wl_val wn rfl (rv_move rfl) ?_
          obtain ⟨x46, hx47, h48⟩ := Option.bind_eq_some_iff.1 h45
          refine wl_indexAddr (t := tGState) wn rfl Try.underlying54 tf140 rfl rfl hs34 hx47 ?_
          intro b49 o50 u51 hu52 ha53
          obtain ⟨a55, n56, c57, rfl, hr54, hs58⟩ := hu52
          have ha59 : AtK _ b49 o50 [.bool x46.Final, .int .i64 x46.Many, .slice a55 n56 c57] := ha53
          refine wl_val wn rfl (rv_loadS (cs := [.bool x46.Final, .int .i64 x46.Many, .slice a55 n56 c57]) tf140 rfl hS30 ha59 rfl) ?_
          refine wl_alloc wn rfl tf140 hS30 ?_
          intro g60 w61 hS62
          have hS63 : SH _ _ _ _ _ [obj g60 [.bool false, .int .i64 0, .slice none 0 0] 140, _, _] := hS62
          refine wl_store (cs' := [.bool x46.Final, .int .i64 x46.Many, .slice a55 n56 c57]) (v := .agg #[.bool x46.Final, .int .i64 x46.Many, .slice a55 n56 c57]) wn tf140 rfl rfl rfl (by simp [Value.cells, Value.oneCell']) hS63 rfl rfl ?_
          intro w64 hS65
          refine wl_nil ?_
          refine qe_seq ?_
          refine wc_seq ?_
          refine wc_seq ?_
          refine wc_region ?_
          refine wl_val wn rfl (rv_fieldAddr ff140_0 rfl) ?_
          refine wl_val wn rfl (rv_loadm1 tf4 rfl (.head _) hS65 rfl) ?_
          refine wl_nil ?_
          refine qe_seq ?_
          obtain ⟨o66, h67, h68⟩ := Option.bind_eq_some_iff.1 h48
          refine wc_cutg (fun E' w' => ∃ (a73 : Option Addr) (n74 c75 : Nat) (a77 : Option Addr) (n78 c79 : Nat) (K69 : KMap), E' = [(0, .pointer (some ⟨g1, 0, none⟩)), (1, .int .i64 p1_at), (2, sv p2_head), (6, .pointer (some ⟨g60, 0, none⟩))] ∧ SH w K (List.filterMap Item.g [obj g1 [.slice a2 n3 c4, .slice a6 n7 c8, .int .i64 p0_l.steps_, .bool p0_l.bad_] 146, tail (.slice a6 n7 c8) 9 1]) w' K69 [obj g1 [.slice a73 n74 c75, .slice a77 n78 c79, .int .i64 o66.steps_, .bool o66.bad_] 146, tail (.slice a77 n78 c79) 9 1, obj g60 [.bool x46.Final, .int .i64 x46.Many, .slice a55 n56 c57] 140] ∧ KLe K27 K69 ∧ SliceAt tGState K69 a73 n74 c75 o66.d_ ∧ SliceAt tStr K69 a77 n78 c79 o66.words_ ∧ rng64 o66.steps_) ?_ ?_
          · refine wc_cond rfl (fun hb82 => ?_) (fun hb82 => ?_)
            · have h83 := cond_t hb82 h67
              refine wc_region ?_
              refine wl_val wn rfl (rv_move rfl) ?_
              refine wl_val wn rfl (rv_move rfl) ?_
              refine wl_val wn rfl (rv_nilCheck rfl) ?_
              refine wl_val wn rfl (rv_fieldAddr ff146_1 rfl) ?_
              refine wl_val wn rfl (rv_loadm1 tf47 rfl (.tail _ (.head _)) hS65 rfl) ?_
              refine wl_val wn rfl (rv_move rfl) ?_
              refine wl_buildSlice (t := tStr) (n := 1) (pv := [(0, sv p2_head)]) (cs := [sv p2_head]) (xs := [p2_head]) wn rfl Try.underlying47 tf9 rfl rfl rfl (by kernel_rfl) rfl rfl (lit_cons (u := sv p2_head) (z := p2_head) ⟨rfl, hl12⟩ lit_nil) hS65 ?_
              intro a84 w85 K86 hl87 hs88 hS89
              have hS90 : SH _ _ _ _ _ [_, _, _, _] := SH.front (p := [_, _, _]) hS89
              obtain ⟨x91, hx92, h93⟩ := Option.bind_eq_some_iff.1 h83
              refine wl_append (t := tStr) wn rfl Try.underlying47 tf9 rfl rfl rfl rfl rfl (SliceAt.mono hl87 hs38) hs88 hx92 hS90 ?_
              intro a94 n95 c96 w97 K98 hl99 hs100 hS101
              refine wl_val wn rfl (rv_nilCheck rfl) ?_
              refine wl_val wn rfl (rv_fieldAddr ff146_1 rfl) ?_
              have hS102 : SH _ _ _ _ _ [_, _, _, _] := SH.front (p := [_, _, _]) hS101
              refine wl_store (cs' := [.slice a31 n32 c33, .slice a94 n95 c96, .int .i64 o24.steps_, .bool o24.bad_]) (v := .slice a94 n95 c96) wn tf47 rfl rfl rfl (by simp [Value.cells, Value.oneCell']) hS102 rfl rfl ?_
              intro w103 hS104
              refine wl_nil ?_
              obtain rfl := Option.some.inj h93
              have hS105 : SH _ _ _ _ _ [_, _, _] := SH.sublist hS104 (.cons_cons _ (.cons_cons _ (.cons _ (.cons_cons _ .slnil))))
              exact qe_mid' ⟨a31, n32, c33, a94, n95, c96, K98, rfl, hS105, (hl87.trans hl99), (SliceAt.mono (hl87.trans hl99) hs34), hs100, hr39⟩ ⟨rfl, rfl, rfl, rfl, trivial⟩
            · have h83 := cond_f hb82 h67
              refine wc_skip ?_
              obtain rfl := Option.some.inj h83
              have hS106 : SH _ _ _ _ _ [_, _, _] := SH.front (p := [_, _]) hS65
              have hS107 : SH _ _ _ _ _ [_, _, _] := SH.front (p := [_, _]) hS106
              exact qe_mid' ⟨a31, n32, c33, a35, n36, c37, K27, rfl, hS107, (KLe.refl _), hs34, hs38, hr39⟩ ⟨rfl, rfl, rfl, rfl, trivial⟩
          · rintro _ w71 ⟨a73, n74, c75, a77, n78, c79, K69, rfl, hS72, hl70, hs76, hs80, hr81⟩
            refine qe_seq ?_
            refine wc_seq ?_
            refine wc_region ?_
            refine wl_val wn rfl (rv_fieldAddr ff140_2 rfl) ?_
            refine wl_val wn rfl (rv_loadm1 tf138 rfl (.tail _ (.tail _ (.head _))) hS72 rfl) ?_
            refine wl_val wn rfl (rv_len (t := tGArc) Try.underlying138 rfl (SliceAt.mono hl70 hs58)) ?_
            refine wl_val wn rfl (rv_move (v := .int .i64 0) rfl) ?_
            refine wl_nil ?_
            refine qe_seq ?_
            obtain ⟨o108, h109, h110⟩ := Option.bind_eq_some_iff.1 h68
            refine wc_cutg (fun E' w' => ∃ (s111 : GLister) (a116 : Option Addr) (n117 c118 : Nat) (a120 : Option Addr) (n121 c122 : Nat) (K112 : KMap), o108 = .inl s111 ∧ E' = [(0, .pointer (some ⟨g1, 0, none⟩))] ∧ SH w K (List.filterMap Item.g [obj g1 [.slice a2 n3 c4, .slice a6 n7 c8, .int .i64 p0_l.steps_, .bool p0_l.bad_] 146, tail (.slice a6 n7 c8) 9 1]) w' K112 [obj g1 [.slice a116 n117 c118, .slice a120 n121 c122, .int .i64 s111.steps_, .bool s111.bad_] 146, tail (.slice a120 n121 c122) 9 1] ∧ KLe K69 K112 ∧ SliceAt tGState K112 a116 n117 c118 s111.d_ ∧ SliceAt tStr K112 a120 n121 c122 s111.words_ ∧ rng64 s111.steps_) ?_ ?_
            · refine wc_block ?_
              obtain ⟨r126, h127, h128⟩ := Option.bind_eq_some_iff.1 h109
              have hS143 : SH _ _ _ _ _ [_, _] := SH.sublist hS72 (.cons_cons _ (.cons_cons _ (.cons _ .slnil)))
              refine wc_for' (fun (i129 : Nat) (s125 : GLister) E' w' => ∃ (a134 : Option Addr) (n135 c136 : Nat) (a138 : Option Addr) (n139 c140 : Nat) (K130 : KMap), E' = [(0, .pointer (some ⟨g1, 0, none⟩)), (1, .int .i64 p1_at), (2, sv p2_head), (53, .slice a55 n56 c57), (54, .int .i64 (x46.Arcs.length : Int)), (55, .int .i64 ((i129 : Nat) : Int))] ∧ SH w K (List.filterMap Item.g [obj g1 [.slice a2 n3 c4, .slice a6 n7 c8, .int .i64 p0_l.steps_, .bool p0_l.bad_] 146, tail (.slice a6 n7 c8) 9 1]) w' K130 [obj g1 [.slice a134 n135 c136, .slice a138 n139 c140, .int .i64 s125.steps_, .bool s125.bad_] 146, tail (.slice a138 n139 c140) 9 1] ∧ KLe K69 K130 ∧ SliceAt tGState K130 a134 n135 c136 s125.d_ ∧ SliceAt tStr K130 a138 n139 c140 s125.words_ ∧ rng64 s125.steps_) h127 ⟨a73, n74, c75, a77, n78, c79, K69, rfl, hS143, (KLe.refl _), hs76, hs80, hr81⟩ ⟨rfl, rfl, rfl, rfl, rfl, rfl, trivial⟩ ?_ ?_
              · rintro i129 s125 _ w132 r144 hi145 h146 hx147 ⟨a134, n135, c136, a138, n139, c140, K130, rfl, hS133, hl131, hs137, hs141, hr142⟩
                refine wc_seq (wc_region ?_)
                refine wl_val wn rfl (rv_lss rfl rfl) ?_
                refine wl_nil (qe_seq (wc_seq ?_))
                refine wc_cond_t rfl (decide_eq_true (by omega)) (wc_skip (qe_seq (wc_seq ?_)))
                refine wc_block ?_
                refine wc_seq ?_
                refine wc_region ?_
                obtain ⟨x148, hx149, h150⟩ := Option.bind_eq_some_iff.1 h146
                refine wl_indexAddr (t := tGArc) wn rfl Try.underlying138 tf142 rfl rfl (SliceAt.mono (hl70.trans hl131) hs58) hx149 ?_
                intro b151 o152 u153 hu154 ha155
                obtain ⟨rfl, hr156⟩ := hu154
                have ha157 : AtK _ b151 o152 [iv8 x148.Byte, .int .i64 x148.To] := ha155
                refine wl_val wn rfl (rv_loadS (cs := [iv8 x148.Byte, .int .i64 x148.To]) tf142 rfl hS133 ha157 rfl) ?_
                refine wl_alloc wn rfl tf142 hS133 ?_
                intro g158 w159 hS160
                have hS161 : SH _ _ _ _ _ [obj g158 [iv8 0, .int .i64 0] 142, _, _] := hS160
                refine wl_store (cs' := [iv8 x148.Byte, .int .i64 x148.To]) (v := .agg #[iv8 x148.Byte, .int .i64 x148.To]) wn tf142 rfl rfl rfl (by simp [Value.cells, Value.oneCell', iv8]) hS161 rfl rfl ?_
                intro w162 hS163
                refine wl_nil ?_
                refine qe_seq ?_
                refine wc_seq ?_
                refine wc_seq ?_
                obtain ⟨o164, h165, h166⟩ := Option.bind_eq_some_iff.1 h150
                refine wc_cutg (fun E' w' => ∃ (K167 : KMap), E' = [(0, .pointer (some ⟨g1, 0, none⟩)), (1, .int .i64 p1_at), (2, sv p2_head), (8, .pointer (some ⟨g158, 0, none⟩)), (53, .slice a55 n56 c57), (54, .int .i64 (x46.Arcs.length : Int)), (55, .int .i64 ((i129 : Nat) : Int)), (67, .bool o164)] ∧ SH w K (List.filterMap Item.g [obj g1 [.slice a2 n3 c4, .slice a6 n7 c8, .int .i64 p0_l.steps_, .bool p0_l.bad_] 146, tail (.slice a6 n7 c8) 9 1]) w' K167 [obj g1 [.slice a134 n135 c136, .slice a138 n139 c140, .int .i64 s125.steps_, .bool s125.bad_] 146, tail (.slice a138 n139 c140) 9 1, obj g158 [iv8 x148.Byte, .int .i64 x148.To] 142] ∧ KLe K130 K167) ?_ ?_
                · refine wc_region ?_
                  refine wl_val wn rfl (rv_fieldAddr ff142_1 rfl) ?_
                  refine wl_val wn rfl (rv_loadm1 tf3 rfl (.head _) hS163 rfl) ?_
                  refine wl_val wn rfl (rv_lss rfl rfl) ?_
                  refine wl_val wn rfl (rv_move rfl) ?_
                  rcases bool_tf (decide (x148.To < (0 : Int))) with hb171 | hb171
                  · have h172 := cond_t hb171 h165
                    refine wl_un (ug rfl rfl hb171) rfl ?_
                    refine wl_un (ug rfl rfl hb171) rfl ?_
                    refine wl_un (ug rfl rfl hb171) rfl ?_
                    refine wl_un (ug rfl rfl hb171) rfl ?_
                    refine wl_val wn rfl (rv_pick_t (v := .bool true) rfl hb171 rfl) ?_
                    refine wl_nil ?_
                    obtain rfl := Option.some.inj h172
                    have hS173 : SH _ _ _ _ _ [_, _, _] := SH.front (p := [_, _]) hS163
                    have hS174 : SH _ _ _ _ _ [_, _, _] := SH.front (p := [_, _]) hS173
                    exact qe_mid' ⟨K130, rfl, hS174, (KLe.refl _)⟩ ⟨rfl, rfl, rfl, rfl, rfl, rfl, rfl, rfl, trivial⟩
                  · have h172 := cond_f hb171 h165
                    refine wl_val (wg rfl rfl hb171) rfl (rv_fieldAddr ff142_1 rfl) ?_
                    refine wl_val (wg rfl rfl hb171) rfl (rv_loadm1 tf3 rfl (.head _) hS163 rfl) ?_
                    refine wl_val (wg rfl rfl hb171) rfl (rv_move rfl) ?_
                    refine wl_val (wg rfl rfl hb171) rfl (rv_geq rfl rfl) ?_
                    refine wl_val wn rfl (rv_pick_f rfl hb171 rfl) ?_
                    refine wl_nil ?_
                    obtain rfl := Option.some.inj h172
                    have hS175 : SH _ _ _ _ _ [_, _, _] := SH.front (p := [_, _]) hS163
                    have hS176 : SH _ _ _ _ _ [_, _, _] := SH.front (p := [_, _]) hS175
                    exact qe_mid' ⟨K130, rfl, hS176, (KLe.refl _)⟩ ⟨rfl, rfl, rfl, rfl, rfl, rfl, rfl, rfl, trivial⟩
                · rintro _ w169 ⟨K167, rfl, hS170, hl168⟩
                  refine qe_seq ?_
                  refine wc_cond rfl (fun hb177 => ?_) (fun hb177 => ?_)
                  · have h178 := cond_t hb177 h166
                    refine wc_seq ?_
                    refine wc_region ?_
                    refine wl_val wn rfl (rv_move rfl) ?_
                    refine wl_val wn rfl (rv_nilCheck rfl) ?_
                    refine wl_val wn rfl (rv_fieldAddr ff146_3 rfl) ?_
                    refine wl_store (cs' := [.slice a134 n135 c136, .slice a138 n139 c140, .int .i64 s125.steps_, .bool true]) (v := .bool true) wn tf4 rfl rfl rfl (by simp [Value.cells, Value.oneCell']) hS170 rfl rfl ?_
                    intro w179 hS180
                    refine wl_nil ?_
                    refine qe_seq ?_
                    refine wc_ret ?_
                    refine qe_then_ret ?_
                    refine qe_block_ret ?_
                    refine qe_then_ret ?_
                    refine qe_then_ret ?_
                    obtain rfl := Option.some.inj h178
                    have e181 := hx147 _ rfl
                    subst e181
                    refine qe_block_ret ?_
                    refine qe_then_ret ?_
                    obtain rfl := Option.some.inj h128
                    obtain rfl := Option.some.inj h110
                    have hS182 : SH _ _ _ _ _ [_, _] := SH.sublist hS180 (.cons_cons _ (.cons_cons _ (.cons _ .slnil)))
                    exact qe_ret (vs := []) Try.results108 trivial ⟨a134, n135, c136, a138, n139, c140, K167, rfl, hS182, (SliceAt.mono hl168 hs137), (SliceAt.mono hl168 hs141), hr142⟩
                  · have h178 := cond_f hb177 h166
                    refine wc_skip ?_
                    refine qe_seq ?_
                    refine wc_region ?_
                    refine wl_val wn rfl (rv_move rfl) ?_
                    refine wl_val wn rfl (rv_fieldAddr ff142_1 rfl) ?_
                    refine wl_val wn rfl (rv_loadm1 tf3 rfl (.tail _ (.tail _ (.head _))) hS170 rfl) ?_
                    refine wl_val wn rfl (rv_move rfl) ?_
                    refine wl_val wn rfl (rv_fieldAddr ff142_0 rfl) ?_
                    refine wl_val wn rfl (rv_loadm1 tf5 rfl (.tail _ (.tail _ (.head _))) hS170 rfl) ?_
                    refine wl_buildSlice (t := tU8) (n := 1) (pv := [(0, iv8 x148.Byte)]) (cs := [iv8 x148.Byte]) (xs := [x148.Byte]) wn rfl Try.underlying33 tf5 rfl rfl rfl (by kernel_rfl) rfl rfl (lit_cons (u := iv8 x148.Byte) (z := x148.Byte) rfl lit_nil) hS170 ?_
                    intro a183 w184 K185 hl186 hs187 hS188
                    refine wl_val wn rfl (rv_b2s Try.underlying33 Try.underlying5 Try.underlying9 rfl hs187 hS188) ?_
                    obtain ⟨x189, hx190, h191⟩ := Option.bind_eq_some_iff.1 h178
                    refine wl_val wn rfl (rv_sadd rfl rfl hx190) ?_
                    obtain ⟨r192, hx193, h194⟩ := Option.bind_eq_some_iff.1 h191
                    have hS195 : SH _ _ _ _ _ [_, _, _, _] := SH.front (p := [_, _]) hS188
                    have hS196 : SH _ _ _ _ _ [_, _, _, _] := SH.front (p := [_, _]) hS195
                    refine wl_call wn rfl (rt_call (vs := [.pointer (some ⟨g1, 0, none⟩), .int .i64 x148.To, sv x189]) co108 rfl) (ih (SH.enter (Lin := [_, _]) hS196) (SliceAt.mono (hl168.trans hl186) hs137) (SliceAt.mono (hl168.trans hl186) hs141) hr142 hr156 (len_cat hx190) hx193) ?_
                    rintro e209 w198 ⟨a200, n201, c202, a204, n205, c206, K197, rfl, hS199, hs203, hs207, hr208⟩
                    refine ⟨_, rfl, ?_⟩
                    have hS210 : SH _ _ _ _ _ [_, _, _, _] := SH.call (Lin := [_, _]) hS196 hS199
                    refine wl_nil ?_
                    refine qe_block ?_
                    refine qe_seq (wc_region ?_)
                    refine wl_val wn rfl (rv_add_to rfl rfl (w64_succ hi145 (SliceAt.max (SliceAt.mono hl70 hs58)))) ?_
                    refine wl_val wn rfl (rv_move rfl) ?_
                    refine wl_nil ?_
                    obtain rfl := Option.some.inj h194
                    have hS211 : SH _ _ _ _ _ [_, _] := SH.sublist hS210 (.cons_cons _ (.cons_cons _ (.cons _ (.cons _ .slnil))))
                    exact qe_mid' ⟨_, rfl, a200, n201, c202, a204, n205, c206, K197, rfl, hS211, (((hl131.trans hl168).trans hl186).trans hS199.le), hs203, hs207, hr208⟩ ⟨rfl, rfl, rfl, rfl, rfl, rfl, trivial⟩
              · rintro s125 _ w132 hr212 ⟨a134, n135, c136, a138, n139, c140, K130, rfl, hS133, hl131, hs137, hs141, hr142⟩
                subst hr212
                refine wc_seq (wc_region ?_)
                refine wl_val wn rfl (rv_lss rfl rfl) ?_
                refine wl_nil (qe_seq (wc_seq ?_))
                refine wc_cond_f rfl (decide_eq_false (by omega)) ?_
                refine wc_exit ?_
                refine qe_then_exit ?_
                refine qe_then_exit ?_
                refine qe_block_eq ?_
                obtain rfl := Option.some.inj h128
                exact qe_mid' ⟨_, a134, n135, c136, a138, n139, c140, K130, rfl, rfl, hS133, hl131, hs137, hs141, hr142⟩ ⟨rfl, trivial⟩
            · rintro _ w114 ⟨s111, a116, n117, c118, a120, n121, c122, K112, rfl, rfl, hS115, hl113, hs119, hs123, hr124⟩
              refine qe_ret_normal ?_
              obtain rfl := Option.some.inj h110
              exact qe_ret (vs := []) Try.results108 trivial ⟨a116, n117, c118, a120, n121, c122, K112, rfl, hS115, hs119, hs123, hr124⟩

theorem ok_slices_EqualFunc_State__impl_sameState (F : Nat) {w : World} {K : KMap} {a1 : Option Addr} {n2 c3 : Nat} {a5 : Option Addr} {n6 c7 : Nat} {p0_s1 : List GState} {p1_s2 : List GState} {r : Bool} (hS : SH w K [] w K []) (hs4 : SliceAt tGState K a1 n2 c3 p0_s1) (hs8 : SliceAt tGState K a5 n6 c7 p1_s2) (hm : M.slices_EqualFunc_State__impl_sameState F p0_s1 p1_s2 = some r) :
    Calls Try.prog 109 #[.slice a1 n2 c3, .slice a5 n6 c7, .func (.func 107) #[] #[]] w fun e w' => ∃ (K' : KMap), e = .returned (.bool r) ∧ SH w K [] w' K' [] := by
  rw [M.slices_EqualFunc_State__impl_sameState] at hm
  refine calls_in Try.func109 rfl Try.ntmps109 rfl ?_
  refine wc_seq ?_
  refine wc_region ?_
  refine wl_val wn rfl (rv_assign (v := .bool false) rfl) ?_
  refine wl_nil ?_
  refine qe_seq ?_
  refine wc_seq ?_
  refine wc_seq ?_
  refine wc_region ?_
  refine wl_val wn rfl (rv_move rfl) ?_
  refine wl_val wn rfl (rv_len (t := tGState) Try.underlying54 rfl hs4) ?_
  refine wl_val wn rfl (rv_move rfl) ?_
  refine wl_val wn rfl (rv_len (t := tGState) Try.underlying54 rfl hs8) ?_
  refine wl_val wn rfl (rv_neq rfl rfl) ?_
  refine wl_nil ?_
  refine qe_seq ?_
  refine wc_cond rfl (fun hb9 => ?_) (fun hb9 => ?_)
  · have h10 := cond_t hb9 hm
    refine wc_seq ?_
    refine wc_region ?_
    refine wl_val wn rfl (rv_assign (v := .bool false) rfl) ?_
    refine wl_nil ?_
    refine qe_seq ?_
    refine wc_ret ?_
    refine qe_then_ret ?_
    obtain rfl := Option.some.inj h10
    exact qe_ret (vs := [_]) Try.results109 ⟨rfl, trivial⟩ ⟨K, rfl, hS⟩
  · have h10 := cond_f hb9 hm
    refine wc_skip ?_
    refine qe_seq ?_
    refine wc_seq ?_
    refine wc_seq ?_
    refine wc_region ?_
    refine wl_val wn rfl (rv_move rfl) ?_
    refine wl_val wn rfl (rv_len (t := tGState) Try.underlying54 rfl hs4) ?_
    refine wl_val wn rfl (rv_move (v := .int .i64 0) rfl) ?_
    refine wl_nil ?_
    refine qe_seq ?_
    obtain ⟨o11, h12, h13⟩ := Option.bind_eq_some_iff.1 h10
    refine wc_cutg (fun E' w' => ∃ (s14 : Unit) (K15 : KMap), o11 = .inl s14 ∧ E' = [] ∧ SH w K [] w' K15 [] ∧ KLe K K15) ?_ ?_
    · refine wc_block ?_
      obtain ⟨r20, h21, h22⟩ := Option.bind_eq_some_iff.1 h12
      refine wc_for' (fun (i23 : Nat) (s19 : Unit) E' w' => ∃ (K24 : KMap), E' = [(1, .slice a5 n6 c7), (2, .func (.func 107) #[] #[]), (15, .slice a1 n2 c3), (16, .int .i64 (p0_s1.length : Int)), (17, .int .i64 ((i23 : Nat) : Int))] ∧ SH w K [] w' K24 [] ∧ KLe K K24) h21 ⟨K, rfl, hS, (KLe.refl _)⟩ ⟨rfl, rfl, rfl, rfl, rfl, trivial⟩ ?_ ?_
      · rintro i23 s19 _ w26 r28 hi29 h30 hx31 ⟨K24, rfl, hS27, hl25⟩
        refine wc_seq (wc_region ?_)
        refine wl_val wn rfl (rv_lss rfl rfl) ?_
        refine wl_nil (qe_seq (wc_seq ?_))
        refine wc_cond_t rfl (decide_eq_true (by omega)) (wc_skip (qe_seq (wc_seq ?_)))
        refine wc_block ?_
        refine wc_seq ?_
        refine wc_region ?_
        refine wl_val wn rfl (rv_move rfl) ?_
        obtain ⟨x32, hx33, h34⟩ := Option.bind_eq_some_iff.1 h30
        refine wl_indexAddr (t := tGState) wn rfl Try.underlying54 tf140 rfl rfl (SliceAt.mono hl25 hs4) hx33 ?_
        intro b35 o36 u37 hu38 ha39
        obtain ⟨a41, n42, c43, rfl, hr40, hs44⟩ := hu38
        have ha45 : AtK _ b35 o36 [.bool x32.Final, .int .i64 x32.Many, .slice a41 n42 c43] := ha39
        refine wl_val wn rfl (rv_loadS (cs := [.bool x32.Final, .int .i64 x32.Many, .slice a41 n42 c43]) tf140 rfl hS27 ha45 rfl) ?_
        refine wl_alloc wn rfl tf140 hS27 ?_
        intro g46 w47 hS48
        have hS49 : SH _ _ _ _ _ [obj g46 [.bool false, .int .i64 0, .slice none 0 0] 140] := hS48
        refine wl_val wn rfl (rv_assign rfl) ?_
        refine wl_store (cs' := [.bool x32.Final, .int .i64 x32.Many, .slice a41 n42 c43]) (v := .agg #[.bool x32.Final, .int .i64 x32.Many, .slice a41 n42 c43]) wn tf140 rfl rfl rfl (by simp [Value.cells, Value.oneCell']) hS49 rfl rfl ?_
        intro w50 hS51
        refine wl_nil ?_
        refine qe_seq ?_
        refine wc_seq ?_
        refine wc_region ?_
        refine wl_val wn rfl (rv_move rfl) ?_
        refine wl_val wn rfl (rv_move rfl) ?_
        obtain ⟨x52, hx53, h54⟩ := Option.bind_eq_some_iff.1 h34
        refine wl_indexAddr (t := tGState) wn rfl Try.underlying54 tf140 rfl rfl (SliceAt.mono hl25 hs8) hx53 ?_
        intro b55 o56 u57 hu58 ha59
        obtain ⟨a61, n62, c63, rfl, hr60, hs64⟩ := hu58
        have ha65 : AtK _ b55 o56 [.bool x52.Final, .int .i64 x52.Many, .slice a61 n62 c63] := ha59
        refine wl_val wn rfl (rv_loadS (cs := [.bool x52.Final, .int .i64 x52.Many, .slice a61 n62 c63]) tf140 rfl hS51 ha65 rfl) ?_
        refine wl_alloc wn rfl tf140 hS51 ?_
        intro g66 w67 hS68
        have hS69 : SH _ _ _ _ _ [obj g66 [.bool false, .int .i64 0, .slice none 0 0] 140, _] := hS68
        refine wl_store (cs' := [.bool x52.Final, .int .i64 x52.Many, .slice a61 n62 c63]) (v := .agg #[.bool x52.Final, .int .i64 x52.Many, .slice a61 n62 c63]) wn tf140 rfl rfl rfl (by simp [Value.cells, Value.oneCell']) hS69 rfl rfl ?_
        intro w70 hS71
        refine wl_nil ?_
        refine qe_seq ?_
        refine wc_seq ?_
        refine wc_region ?_
        refine wl_val wn rfl (rv_move rfl) ?_
        refine wl_val wn rfl (rv_loadmS (ds := [.bool x32.Final, .int .i64 x32.Many, .slice a41 n42 c43]) tf140 rfl (.tail _ (.head _)) hS71 rfl rfl) ?_
        refine wl_val wn rfl (rv_loadmS (ds := [.bool x52.Final, .int .i64 x52.Many, .slice a61 n62 c63]) tf140 rfl (.head _) hS71 rfl rfl) ?_
        obtain ⟨r72, hx73, h74⟩ := Option.bind_eq_some_iff.1 h54
        refine wl_call wn rfl (rt_callv (vs := [.agg #[.bool x32.Final, .int .i64 x32.Many, .slice a41 n42 c43], .agg #[.bool x52.Final, .int .i64 x52.Many, .slice a61 n62 c63]]) (cap := #[]) co107 rfl rfl) ((ok_impl_sameState F) hS71.enter0 hr40 hs44 hr60 hs64 hx73) ?_
        rintro e78 w76 ⟨K75, rfl, hS77⟩
        refine ⟨_, rfl, ?_⟩
        have hS79 : SH _ _ _ _ _ [_, _] := SH.call0 hS71 hS77
        refine wl_val wn rfl (rv_not rfl) ?_
        refine wl_nil ?_
        refine qe_seq ?_
        refine wc_cond rfl (fun hb80 => ?_) (fun hb80 => ?_)
        · have h81 := cond_t hb80 h74
          refine wc_seq ?_
          refine wc_region ?_
          refine wl_val wn rfl (rv_assign (v := .bool false) rfl) ?_
          refine wl_nil ?_
          refine qe_seq ?_
          refine wc_ret ?_
          refine qe_block_ret ?_
          refine qe_then_ret ?_
          refine qe_then_ret ?_
          obtain rfl := Option.some.inj h81
          have e82 := hx31 _ rfl
          subst e82
          refine qe_block_ret ?_
          refine qe_then_ret ?_
          obtain rfl := Option.some.inj h22
          refine qe_then_ret ?_
          obtain rfl := Option.some.inj h13
          have hS83 : SH _ _ _ _ _ [] := SH.sublist hS79 (.cons _ (.cons _ .slnil))
          exact qe_ret (vs := [_]) Try.results109 ⟨rfl, trivial⟩ ⟨K75, rfl, hS83⟩
        · have h81 := cond_f hb80 h74
          refine wc_skip ?_
          refine qe_block ?_
          refine qe_seq (wc_region ?_)
          refine wl_val wn rfl (rv_add_to rfl rfl (w64_succ hi29 (SliceAt.max hs4))) ?_
          refine wl_val wn rfl (rv_move rfl) ?_
          refine wl_nil ?_
          obtain rfl := Option.some.inj h81
          have hS84 : SH _ _ _ _ _ [] := SH.sublist hS79 (.cons _ (.cons _ .slnil))
          exact qe_mid' ⟨_, rfl, K75, rfl, hS84, (hl25.trans hS77.le)⟩ ⟨rfl, rfl, rfl, rfl, rfl, trivial⟩
      · rintro s19 _ w26 hr85 ⟨K24, rfl, hS27, hl25⟩
        subst hr85
        refine wc_seq (wc_region ?_)
        refine wl_val wn rfl (rv_lss rfl rfl) ?_
        refine wl_nil (qe_seq (wc_seq ?_))
        refine wc_cond_f rfl (decide_eq_false (by omega)) ?_
        refine wc_exit ?_
        refine qe_then_exit ?_
        refine qe_then_exit ?_
        refine qe_block_eq ?_
        obtain rfl := Option.some.inj h22
        exact qe_mid' ⟨_, K24, rfl, rfl, hS27, hl25⟩ trivial
    · rintro _ w17 ⟨s14, K15, rfl, rfl, hS18, hl16⟩
      refine qe_seq ?_
      refine wc_seq ?_
      refine wc_region ?_
      refine wl_val wn rfl (rv_assign (v := .bool true) rfl) ?_
      refine wl_nil ?_
      refine qe_seq ?_
      refine wc_ret ?_
      obtain rfl := Option.some.inj h13
      exact qe_ret (vs := [_]) Try.results109 ⟨rfl, trivial⟩ ⟨K15, rfl, hS18⟩

theorem ok_impl_wordsIn (F : Nat) {w : World} {K : KMap} {a1 : Option Addr} {n2 c3 : Nat} {p0_d : List GState} {r : (List Str) × Bool} (hS : SH w K [] w K []) (hs4 : SliceAt tGState K a1 n2 c3 p0_d) (hm : M.impl_wordsIn F p0_d = some r) :
    Calls Try.prog 74 #[.slice a1 n2 c3] w fun e w' => ∃ (a_1 : Option Addr) (n_2 c_3 : Nat) (K' : KMap), e = .returned (.tuple #[.slice a_1 n_2 c_3, .bool r.2]) ∧ SH w K [] w' K' [tail (.slice a_1 n_2 c_3) 9 1] ∧ SliceAt tStr K' a_1 n_2 c_3 r.1 := by
  rw [M.impl_wordsIn] at hm
  refine calls_in Try.func74 rfl Try.ntmps74 rfl ?_
  refine wc_seq ?_
  refine wc_region ?_
  refine wl_val wn rfl (rv_assign (v := .slice none 0 0) rfl) ?_
  refine wl_val wn rfl (rv_assign (v := .bool false) rfl) ?_
  refine wl_nil ?_
  refine qe_seq ?_
  refine wc_seq ?_
  refine wc_seq ?_
  refine wc_region ?_
  refine wl_val wn rfl (rv_move rfl) ?_
  refine wl_val wn rfl (rv_len (t := tGState) Try.underlying54 rfl hs4) ?_
  refine wl_val wn rfl (rv_eql rfl rfl) ?_
  refine wl_nil ?_
  refine qe_seq ?_
  refine wc_cond rfl (fun hb5 => ?_) (fun hb5 => ?_)
  · have h6 := cond_t hb5 hm
    refine wc_seq ?_
    refine wc_region ?_
    refine wl_val wn rfl (rv_assign (v := .slice none 0 0) rfl) ?_
    refine wl_val wn rfl (rv_assign (v := .bool false) rfl) ?_
    refine wl_nil ?_
    refine qe_seq ?_
    refine wc_ret ?_
    refine qe_then_ret ?_
    obtain rfl := Option.some.inj h6
    have hS7 := SH.nil hS 9 1
    exact qe_ret (vs := [_, _]) Try.results74 ⟨rfl, rfl, trivial⟩ ⟨none, 0, 0, K, rfl, hS7, (SliceAt.nil _ _)⟩
  · have h6 := cond_f hb5 hm
    refine wc_skip ?_
    refine qe_seq ?_
    refine wc_seq ?_
    refine wc_region ?_
    refine wl_val wn rfl (rv_move rfl) ?_
    refine wl_buildSlice0 tStr wn rfl Try.underlying47 tf9 hS ?_
    intro a8 w9 K10 hl11 hs12 hS13
    refine wl_val wn rfl (rv_build (cs := #[.slice a1 n2 c3, .slice a8 0 0, .int .i64 0, .bool false]) sp146 tf146 rfl (by kernel_rfl)) ?_
    refine wl_box wn rfl rfl hS13 ?_
    intro g14 w15 hS16
    have hS17 : SH _ _ _ _ _ [obj g14 [.slice a1 n2 c3, .slice a8 0 0, .int .i64 0, .bool false] 146, _] := hS16
    refine wl_val wn rfl (rv_assign rfl) ?_
    refine wl_nil ?_
    refine qe_seq ?_
    refine wc_seq ?_
    refine wc_region ?_
    refine wl_val wn rfl (rv_move rfl) ?_
    refine wl_val wn rfl (rv_move rfl) ?_
    refine wl_val wn rfl (rv_len (t := tGState) Try.underlying54 rfl (SliceAt.mono hl11 hs4)) ?_
    refine wl_val wn rfl (rv_sub rfl rfl) ?_
    obtain ⟨r18, hx19, h20⟩ := Option.bind_eq_some_iff.1 h6
    have hS21 : SH _ _ _ _ _ [_, _] := SH.front (p := [_]) hS17
    have hS22 : SH _ _ _ _ _ [_, _] := SH.front (p := [_]) hS21
    refine wl_call wn rfl (rt_call (vs := [.pointer (some ⟨g14, 0, none⟩), .int .i64 (w64 ((p0_d.length : Int) - (1 : Int))), sv []]) co108 rfl) ((ok_impl_lister_visit F) (SH.enter (Lin := [_, _]) hS22) (SliceAt.mono hl11 hs4) hs12 (by decide : rng64 0) (w64_rng _) (by decide : ([] : Str).length ≤ maxLen) hx19) ?_
    rintro e35 w24 ⟨a26, n27, c28, a30, n31, c32, K23, rfl, hS25, hs29, hs33, hr34⟩
    refine ⟨_, rfl, ?_⟩
    have hS36 : SH _ _ _ _ _ [_, _] := SH.call (Lin := [_, _]) hS22 hS25
    refine wl_nil ?_
    refine qe_seq ?_
    refine wc_seq ?_
    refine wc_seq ?_
    obtain ⟨o37, h38, h39⟩ := Option.bind_eq_some_iff.1 h20
    refine wc_cutg (fun E' w' => ∃ (K40 : KMap), E' = [(4, .pointer (some ⟨g14, 0, none⟩)), (38, .bool o37)] ∧ SH w K [] w' K40 [obj g14 [.slice a26 n27 c28, .slice a30 n31 c32, .int .i64 r18.steps_, .bool r18.bad_] 146, tail (.slice a30 n31 c32) 9 1] ∧ KLe K23 K40) ?_ ?_
    · refine wc_region ?_
      refine wl_val wn rfl (rv_move rfl) ?_
      refine wl_val wn rfl (rv_nilCheck rfl) ?_
      refine wl_val wn rfl (rv_fieldAddr ff146_3 rfl) ?_
      refine wl_val wn rfl (rv_loadm1 tf4 rfl (.head _) hS36 rfl) ?_
      refine wl_val wn rfl (rv_move rfl) ?_
      rcases bool_tf (r18.bad_) with hb44 | hb44
      · have h45 := cond_t hb44 h38
        refine wl_un (ug rfl rfl hb44) rfl ?_
        refine wl_un (ug rfl rfl hb44) rfl ?_
        refine wl_un (ug rfl rfl hb44) rfl ?_
        refine wl_un (ug rfl rfl hb44) rfl ?_
        refine wl_un (ug rfl rfl hb44) rfl ?_
        refine wl_un (ug rfl rfl hb44) rfl ?_
        refine wl_val wn rfl (rv_pick_t (v := .bool true) rfl hb44 rfl) ?_
        refine wl_val wn rfl (rv_move rfl) ?_
        refine wl_un (ug rfl rfl rfl) rfl ?_
        refine wl_un (ug rfl rfl rfl) rfl ?_
        refine wl_un (ug rfl rfl rfl) rfl ?_
        refine wl_un (ug rfl rfl rfl) rfl ?_
        refine wl_un (ug rfl rfl rfl) rfl ?_
        refine wl_un (ug rfl rfl rfl) rfl ?_
        refine wl_un (ug rfl rfl rfl) rfl ?_
        refine wl_un (ug rfl rfl rfl) rfl ?_
        refine wl_val wn rfl (rv_pick_t (v := .bool true) rfl rfl rfl) ?_
        refine wl_nil ?_
        obtain rfl := Option.some.inj h45
        exact qe_mid' ⟨K23, rfl, hS36, (KLe.refl _)⟩ ⟨rfl, rfl, trivial⟩
      · have h45 := cond_f hb44 h38
        refine wl_val (wg rfl rfl hb44) rfl (rv_move rfl) ?_
        refine wl_val (wg rfl rfl hb44) rfl (rv_nilCheck rfl) ?_
        refine wl_val (wg rfl rfl hb44) rfl (rv_fieldAddr ff146_1 rfl) ?_
        refine wl_val (wg rfl rfl hb44) rfl (rv_loadm1 tf47 rfl (.head _) hS36 rfl) ?_
        obtain ⟨r46, hx47, h48⟩ := Option.bind_eq_some_iff.1 h45
        refine wl_call (wg rfl rfl hb44) rfl (rt_call (vs := [.slice a30 n31 c32]) co26 rfl) ((ok_impl_WordsUp F) hS36.enter0 hs33 hx47) ?_
        rintro e52 w50 ⟨K49, rfl, hS51⟩
        refine ⟨_, rfl, ?_⟩
        have hS53 : SH _ _ _ _ _ [_, _] := SH.call0 hS36 hS51
        refine wl_val (wg rfl rfl hb44) rfl (rv_not rfl) ?_
        refine wl_val wn rfl (rv_pick_f rfl hb44 rfl) ?_
        refine wl_val wn rfl (rv_move rfl) ?_
        rcases bool_tf ((!r46)) with hb54 | hb54
        · have h55 := cond_t hb54 h48
          refine wl_un (ug rfl rfl hb54) rfl ?_
          refine wl_un (ug rfl rfl hb54) rfl ?_
          refine wl_un (ug rfl rfl hb54) rfl ?_
          refine wl_un (ug rfl rfl hb54) rfl ?_
          refine wl_un (ug rfl rfl hb54) rfl ?_
          refine wl_un (ug rfl rfl hb54) rfl ?_
          refine wl_un (ug rfl rfl hb54) rfl ?_
          refine wl_un (ug rfl rfl hb54) rfl ?_
          refine wl_val wn rfl (rv_pick_t (v := .bool true) rfl hb54 rfl) ?_
          refine wl_nil ?_
          obtain rfl := Option.some.inj h55
          exact qe_mid' ⟨K49, rfl, hS53, hS51.le⟩ ⟨rfl, rfl, trivial⟩
        · have h55 := cond_f hb54 h48
          refine wl_val (wg rfl rfl hb54) rfl (rv_move rfl) ?_
          refine wl_val (wg rfl rfl hb54) rfl (rv_nilCheck rfl) ?_
          refine wl_val (wg rfl rfl hb54) rfl (rv_fieldAddr ff146_1 rfl) ?_
          refine wl_val (wg rfl rfl hb54) rfl (rv_loadm1 tf47 rfl (.head _) hS53 rfl) ?_
          obtain ⟨r56, hx57, h58⟩ := Option.bind_eq_some_iff.1 h55
          refine wl_call (wg rfl rfl hb54) rfl (rt_call (vs := [.slice a30 n31 c32]) co27 rfl) ((ok_impl_DawgOf F) hS53.enter0 (SliceAt.mono hS51.le hs33) hx57) ?_
          rintro e66 w60 ⟨a62, n63, c64, K59, rfl, hS61, hs65⟩
          refine ⟨_, rfl, ?_⟩
          have hS67 : SH _ _ _ _ _ [_, _, _] := SH.call0 hS53 hS61
          refine wl_val (wg rfl rfl hb54) rfl (rv_move rfl) ?_
          obtain ⟨r68, hx69, h70⟩ := Option.bind_eq_some_iff.1 h58
          refine wl_call (wg rfl rfl hb54) rfl (rt_call (vs := [.slice a62 n63 c64, .slice a1 n2 c3, .func (.func 107) #[] #[]]) co109 rfl) ((ok_slices_EqualFunc_State__impl_sameState F) hS67.enter0 hs65 (SliceAt.mono (((hl11.trans hS25.le).trans hS51.le).trans hS61.le) hs4) hx69) ?_
          rintro e74 w72 ⟨K71, rfl, hS73⟩
          refine ⟨_, rfl, ?_⟩
          have hS75 : SH _ _ _ _ _ [_, _, _] := SH.call0 hS67 hS73
          refine wl_val (wg rfl rfl hb54) rfl (rv_not rfl) ?_
          refine wl_val wn rfl (rv_pick_f rfl hb54 rfl) ?_
          refine wl_nil ?_
          obtain rfl := Option.some.inj h70
          have hS76 : SH _ _ _ _ _ [_, _] := SH.sublist hS75 (.cons _ (.cons_cons _ (.cons_cons _ .slnil)))
          exact qe_mid' ⟨K71, rfl, hS76, ((hS51.le.trans hS61.le).trans hS73.le)⟩ ⟨rfl, rfl, trivial⟩
    · rintro _ w42 ⟨K40, rfl, hS43, hl41⟩
      refine qe_seq ?_
      refine wc_cond rfl (fun hb77 => ?_) (fun hb77 => ?_)
      · have h78 := cond_t hb77 h39
        refine wc_seq ?_
        refine wc_region ?_
        refine wl_val wn rfl (rv_assign (v := .slice none 0 0) rfl) ?_
        refine wl_val wn rfl (rv_assign (v := .bool false) rfl) ?_
        refine wl_nil ?_
        refine qe_seq ?_
        refine wc_ret ?_
        refine qe_then_ret ?_
        obtain rfl := Option.some.inj h78
        have hS79 := SH.nil hS43 9 1
        have hS80 : SH _ _ _ _ _ [_] := SH.sublist hS79 (.cons_cons _ (.cons _ (.cons _ .slnil)))
        exact qe_ret (vs := [_, _]) Try.results74 ⟨rfl, rfl, trivial⟩ ⟨none, 0, 0, K40, rfl, hS80, (SliceAt.nil _ _)⟩
      · have h78 := cond_f hb77 h39
        refine wc_skip ?_
        refine qe_seq ?_
        refine wc_seq ?_
        refine wc_region ?_
        refine wl_val wn rfl (rv_move rfl) ?_
        refine wl_val wn rfl (rv_nilCheck rfl) ?_
        refine wl_val wn rfl (rv_fieldAddr ff146_1 rfl) ?_
        refine wl_val wn rfl (rv_loadm1 tf47 rfl (.head _) hS43 rfl) ?_
        refine wl_val wn rfl (rv_assign rfl) ?_
        refine wl_val wn rfl (rv_assign (v := .bool true) rfl) ?_
        refine wl_nil ?_
        refine qe_seq ?_
        refine wc_ret ?_
        obtain rfl := Option.some.inj h78
        have hS81 : SH _ _ _ _ _ [_] := SH.sublist hS43 (.cons _ (.cons_cons _ .slnil))
        exact qe_ret (vs := [_, _]) Try.results74 ⟨rfl, rfl, trivial⟩ ⟨a30, n31, c32, K40, rfl, hS81, (SliceAt.mono hl41 hs33)⟩

theorem ok_slices_Index_string (F : Nat) {w : World} {K : KMap} {a1 : Option Addr} {n2 c3 : Nat} {p0_s : List Str} {p1_v : Str} {r : Int} (hS : SH w K [] w K []) (hs4 : SliceAt tStr K a1 n2 c3 p0_s) (hl5 : p1_v.length ≤ maxLen) (hm : M.slices_Index_string F p0_s p1_v = some r) :
    Calls Try.prog 75 #[.slice a1 n2 c3, sv p1_v] w fun e w' => ∃ (K' : KMap), e = .returned (.int .i64 r) ∧ SH w K [] w' K' [] ∧ rng64 r := by
  rw [M.slices_Index_string] at hm
  refine calls_in Try.func75 rfl Try.ntmps75 rfl ?_
  refine wc_seq ?_
  refine wc_region ?_
  refine wl_val wn rfl (rv_assign (v := .int .i64 0) rfl) ?_
  refine wl_nil ?_
  refine qe_seq ?_
  refine wc_seq ?_
  refine wc_seq ?_
  refine wc_region ?_
  refine wl_val wn rfl (rv_move rfl) ?_
  refine wl_val wn rfl (rv_len (t := tStr) Try.underlying47 rfl hs4) ?_
  refine wl_val wn rfl (rv_move (v := .int .i64 0) rfl) ?_
  refine wl_nil ?_
  refine qe_seq ?_
  obtain ⟨o6, h7, h8⟩ := Option.bind_eq_some_iff.1 hm
  refine wc_cutg (fun E' w' => ∃ (s9 : Unit) (K10 : KMap), o6 = .inl s9 ∧ E' = [] ∧ SH w K [] w' K10 [] ∧ KLe K K10) ?_ ?_
  · refine wc_block ?_
    obtain ⟨r15, h16, h17⟩ := Option.bind_eq_some_iff.1 h7
    refine wc_for' (fun (i18 : Nat) (s14 : Unit) E' w' => ∃ (K19 : KMap), E' = [(0, .slice a1 n2 c3), (1, sv p1_v), (7, .int .i64 (p0_s.length : Int)), (8, .int .i64 ((i18 : Nat) : Int))] ∧ SH w K [] w' K19 [] ∧ KLe K K19) h16 ⟨K, rfl, hS, (KLe.refl _)⟩ ⟨rfl, rfl, rfl, rfl, trivial⟩ ?_ ?_
    · rintro i18 s14 _ w21 r23 hi24 h25 hx26 ⟨K19, rfl, hS22, hl20⟩
      refine wc_seq (wc_region ?_)
      refine wl_val wn rfl (rv_lss rfl rfl) ?_
      refine wl_nil (qe_seq (wc_seq ?_))
      refine wc_cond_t rfl (decide_eq_true (by omega)) (wc_skip (qe_seq (wc_seq ?_)))
      refine wc_block ?_
      refine wc_seq ?_
      refine wc_region ?_
      refine wl_val wn rfl (rv_move rfl) ?_
      refine wl_val wn rfl (rv_assign rfl) ?_
      refine wl_nil ?_
      refine qe_seq ?_
      refine wc_seq ?_
      refine wc_region ?_
      refine wl_val wn rfl (rv_move rfl) ?_
      refine wl_val wn rfl (rv_move rfl) ?_
      refine wl_val wn rfl (rv_move rfl) ?_
      obtain ⟨x27, hx28, h29⟩ := Option.bind_eq_some_iff.1 h25
      refine wl_indexAddr (t := tStr) wn rfl Try.underlying47 tf9 rfl rfl (SliceAt.mono hl20 hs4) hx28 ?_
      intro b30 o31 u32 hu33 ha34
      obtain ⟨rfl, hl35⟩ := hu33
      have ha36 : AtK _ b30 o31 [sv x27] := ha34
      refine wl_val wn rfl (rv_load1 tf9 rfl hS22 (ha36 0 _ rfl)) ?_
      refine wl_val wn rfl (rv_seql rfl rfl) ?_
      refine wl_nil ?_
      refine qe_seq ?_
      refine wc_cond rfl (fun hb37 => ?_) (fun hb37 => ?_)
      · have h38 := cond_t hb37 h29
        refine wc_seq ?_
        refine wc_region ?_
        refine wl_val wn rfl (rv_move rfl) ?_
        refine wl_val wn rfl (rv_assign rfl) ?_
        refine wl_nil ?_
        refine qe_seq ?_
        refine wc_ret ?_
        refine qe_block_ret ?_
        refine qe_then_ret ?_
        refine qe_then_ret ?_
        obtain rfl := Option.some.inj h38
        have e39 := hx26 _ rfl
        subst e39
        refine qe_block_ret ?_
        refine qe_then_ret ?_
        obtain rfl := Option.some.inj h17
        refine qe_then_ret ?_
        obtain rfl := Option.some.inj h8
        exact qe_ret (vs := [_]) Try.results75 ⟨rfl, trivial⟩ ⟨K19, rfl, hS22, (rng_idx hi24 (SliceAt.max hs4))⟩
      · have h38 := cond_f hb37 h29
        refine wc_skip ?_
        refine qe_block ?_
        refine qe_seq (wc_region ?_)
        refine wl_val wn rfl (rv_add_to rfl rfl (w64_succ hi24 (SliceAt.max hs4))) ?_
        refine wl_val wn rfl (rv_move rfl) ?_
        refine wl_nil ?_
        obtain rfl := Option.some.inj h38
        exact qe_mid' ⟨_, rfl, K19, rfl, hS22, hl20⟩ ⟨rfl, rfl, rfl, rfl, trivial⟩
    · rintro s14 _ w21 hr40 ⟨K19, rfl, hS22, hl20⟩
      subst hr40
      refine wc_seq (wc_region ?_)
      refine wl_val wn rfl (rv_lss rfl rfl) ?_
      refine wl_nil (qe_seq (wc_seq ?_))
      refine wc_cond_f rfl (decide_eq_false (by omega)) ?_
      refine wc_exit ?_
      refine qe_then_exit ?_
      refine qe_then_exit ?_
      refine qe_block_eq ?_
      obtain rfl := Option.some.inj h17
      exact qe_mid' ⟨_, K19, rfl, rfl, hS22, hl20⟩ trivial
  · rintro _ w12 ⟨s9, K10, rfl, rfl, hS13, hl11⟩
    refine qe_seq ?_
    refine wc_seq ?_
    refine wc_region ?_
    refine wl_val wn rfl (rv_assign (v := .int .i64 (-1)) rfl) ?_
    refine wl_nil ?_
    refine qe_seq ?_
    refine wc_ret ?_
    obtain rfl := Option.some.inj h8
    exact qe_ret (vs := [_]) Try.results75 ⟨rfl, trivial⟩ ⟨K10, rfl, hS13, (by decide : rng64 (-1))⟩

theorem ok_impl_DawgRank (F : Nat) {w : World} {K : KMap} {a1 : Option Addr} {n2 c3 : Nat} {p0_d : List GState} {p1_s : Str} {r : Int} (hS : SH w K [] w K []) (hs4 : SliceAt tGState K a1 n2 c3 p0_d) (hl5 : p1_s.length ≤ maxLen) (hm : M.impl_DawgRank F p0_d p1_s = some r) :
    Calls Try.prog 29 #[.slice a1 n2 c3, sv p1_s] w fun e w' => ∃ (K' : KMap), e = .returned (.int .i64 r) ∧ SH w K [] w' K' [] ∧ rng64 r := by
  rw [M.impl_DawgRank] at hm
  refine calls_in Try.func29 rfl Try.ntmps29 rfl ?_
  refine wc_seq ?_
  refine wc_region ?_
  refine wl_val wn rfl (rv_assign (v := .int .i64 0) rfl) ?_
  refine wl_nil ?_
  refine qe_seq ?_
  refine wc_seq ?_
  refine wc_region ?_
  refine wl_val wn rfl (rv_move rfl) ?_
  obtain ⟨r6, hx7, h8⟩ := Option.bind_eq_some_iff.1 hm
  refine wl_call wn rfl (rt_call (vs := [.slice a1 n2 c3]) co74 rfl) ((ok_impl_wordsIn F) hS.enter0 hs4 hx7) ?_
  rintro e16 w10 ⟨a12, n13, c14, K9, rfl, hS11, hs15⟩
  refine ⟨_, rfl, ?_⟩
  have hS17 : SH _ _ _ _ _ [_] := SH.call0 hS hS11
  refine wl_val wn rfl (rv_move rfl) ?_
  refine wl_val wn rfl (rv_extract rfl rfl) ?_
  refine wl_val wn rfl (rv_extract rfl rfl) ?_
  refine wl_val wn rfl (rv_assign rfl) ?_
  refine wl_val wn rfl (rv_assign rfl) ?_
  refine wl_nil ?_
  refine qe_seq ?_
  refine wc_seq ?_
  refine wc_region ?_
  refine wl_val wn rfl (rv_move rfl) ?_
  refine wl_val wn rfl (rv_move rfl) ?_
  obtain ⟨r18, hx19, h20⟩ := Option.bind_eq_some_iff.1 h8
  refine wl_call wn rfl (rt_call (vs := [.slice a12 n13 c14, sv p1_s]) co75 rfl) ((ok_slices_Index_string F) hS17.enter0 hs15 hl5 hx19) ?_
  rintro e25 w22 ⟨K21, rfl, hS23, hr24⟩
  refine ⟨_, rfl, ?_⟩
  have hS26 : SH _ _ _ _ _ [_] := SH.call0 hS17 hS23
  refine wl_val wn rfl (rv_assign rfl) ?_
  refine wl_nil ?_
  refine qe_seq ?_
  refine wc_ret ?_
  obtain rfl := Option.some.inj h20
  have hS27 : SH _ _ _ _ _ [] := SH.sublist hS26 (.cons _ .slnil)
  exact qe_ret (vs := [_]) Try.results29 ⟨rfl, trivial⟩ ⟨K21, rfl, hS27, hr24⟩

theorem ok_stringslite_HasPrefix (F : Nat) {w : World} {K : KMap} {p0_s : Str} {p1_prefix : Str} {r : Bool} (hS : SH w K [] w K []) (hl1 : p0_s.length ≤ maxLen) (hl2 : p1_prefix.length ≤ maxLen) (hm : M.stringslite_HasPrefix F p0_s p1_prefix = some r) :
    Calls Try.prog 110 #[sv p0_s, sv p1_prefix] w fun e w' => ∃ (K' : KMap), e = .returned (.bool r) ∧ SH w K [] w' K' [] := by
  rw [M.stringslite_HasPrefix] at hm
  refine calls_in Try.func110 rfl Try.ntmps110 rfl ?_
  refine wc_seq ?_
  refine wc_region ?_
  refine wl_val wn rfl (rv_assign (v := .bool false) rfl) ?_
  refine wl_nil ?_
  refine qe_seq ?_
  refine wc_seq ?_
  refine wc_region ?_
  refine wl_val wn rfl (rv_move rfl) ?_
  refine wl_val wn rfl (rv_slen Try.underlying9 rfl) ?_
  refine wl_val wn rfl (rv_move rfl) ?_
  refine wl_val wn rfl (rv_slen Try.underlying9 rfl) ?_
  refine wl_val wn rfl (rv_geq rfl rfl) ?_
  refine wl_val wn rfl (rv_move rfl) ?_
  rcases bool_tf (decide ((p1_prefix.length : Int) ≤ (p0_s.length : Int))) with hb3 | hb3
  · have h4 := cond_t hb3 hm
    refine wl_val (wg rfl rfl hb3) rfl (rv_move rfl) ?_
    refine wl_val (wg rfl rfl hb3) rfl (rv_move rfl) ?_
    refine wl_val (wg rfl rfl hb3) rfl (rv_slen Try.underlying9 rfl) ?_
    obtain ⟨x5, hx6, h7⟩ := Option.bind_eq_some_iff.1 h4
    refine wl_val (wg rfl rfl hb3) rfl (rv_ssl_h Try.underlying9 rfl rfl hx6) ?_
    refine wl_val (wg rfl rfl hb3) rfl (rv_move rfl) ?_
    refine wl_val (wg rfl rfl hb3) rfl (rv_seql rfl rfl) ?_
    refine wl_val wn rfl (rv_pick_t rfl hb3 rfl) ?_
    refine wl_val wn rfl (rv_assign rfl) ?_
    refine wl_nil ?_
    refine qe_seq ?_
    refine wc_ret ?_
    obtain rfl := Option.some.inj h7
    exact qe_ret (vs := [_]) Try.results110 ⟨rfl, trivial⟩ ⟨K, rfl, hS⟩
  · have h4 := cond_f hb3 hm
    refine wl_un (ug rfl rfl hb3) rfl ?_
    refine wl_un (ug rfl rfl hb3) rfl ?_
    refine wl_un (ug rfl rfl hb3) rfl ?_
    refine wl_un (ug rfl rfl hb3) rfl ?_
    refine wl_un (ug rfl rfl hb3) rfl ?_
    refine wl_un (ug rfl rfl hb3) rfl ?_
    refine wl_val wn rfl (rv_pick_f (v := .bool false) rfl hb3 rfl) ?_
    refine wl_val wn rfl (rv_assign rfl) ?_
    refine wl_nil ?_
    refine qe_seq ?_
    refine wc_ret ?_
    obtain rfl := Option.some.inj h4
    exact qe_ret (vs := [_]) Try.results110 ⟨rfl, trivial⟩ ⟨K, rfl, hS⟩

theorem ok_strings_HasPrefix (F : Nat) {w : World} {K : KMap} {p0_s : Str} {p1_prefix : Str} {r : Bool} (hS : SH w K [] w K []) (hl1 : p0_s.length ≤ maxLen) (hl2 : p1_prefix.length ≤ maxLen) (hm : M.strings_HasPrefix F p0_s p1_prefix = some r) :
    Calls Try.prog 76 #[sv p0_s, sv p1_prefix] w fun e w' => ∃ (K' : KMap), e = .returned (.bool r) ∧ SH w K [] w' K' [] := by
  rw [M.strings_HasPrefix] at hm
  refine calls_in Try.func76 rfl Try.ntmps76 rfl ?_
  refine wc_seq ?_
  refine wc_region ?_
  refine wl_val wn rfl (rv_assign (v := .bool false) rfl) ?_
  refine wl_nil ?_
  refine qe_seq ?_
  refine wc_seq ?_
  refine wc_region ?_
  refine wl_val wn rfl (rv_move rfl) ?_
  refine wl_val wn rfl (rv_move rfl) ?_
  obtain ⟨r3, hx4, h5⟩ := Option.bind_eq_some_iff.1 hm
  refine wl_call wn rfl (rt_call (vs := [sv p0_s, sv p1_prefix]) co110 rfl) ((ok_stringslite_HasPrefix F) hS.enter0 hl1 hl2 hx4) ?_
  rintro e9 w7 ⟨K6, rfl, hS8⟩
  refine ⟨_, rfl, ?_⟩
  have hS10 : SH _ _ _ _ _ [] := SH.call0 hS hS8
  refine wl_val wn rfl (rv_assign rfl) ?_
  refine wl_nil ?_
  refine qe_seq ?_
  refine wc_ret ?_
  obtain rfl := Option.some.inj h5
  exact qe_ret (vs := [_]) Try.results76 ⟨rfl, trivial⟩ ⟨K6, rfl, hS10⟩

theorem ok_impl_DawgHead (F : Nat) {w : World} {K : KMap} {a1 : Option Addr} {n2 c3 : Nat} {p0_d : List GState} {p1_s : Str} {r : (List Str)} (hS : SH w K [] w K []) (hs4 : SliceAt tGState K a1 n2 c3 p0_d) (hl5 : p1_s.length ≤ maxLen) (hm : M.impl_DawgHead F p0_d p1_s = some r) :
    Calls Try.prog 30 #[.slice a1 n2 c3, sv p1_s] w fun e w' => ∃ (a_1 : Option Addr) (n_2 c_3 : Nat) (K' : KMap), e = .returned (.slice a_1 n_2 c_3) ∧ SH w K [] w' K' [tail (.slice a_1 n_2 c_3) 9 1] ∧ SliceAt tStr K' a_1 n_2 c_3 r := by
  rw [M.impl_DawgHead] at hm
  refine calls_in Try.func30 rfl Try.ntmps30 rfl ?_
  refine wc_seq ?_
  refine wc_region ?_
  refine wl_val wn rfl (rv_assign (v := .slice none 0 0) rfl) ?_
  refine wl_nil ?_
  refine qe_seq ?_
  refine wc_seq ?_
  refine wc_region ?_
  refine wl_val wn rfl (rv_move rfl) ?_
  obtain ⟨r6, hx7, h8⟩ := Option.bind_eq_some_iff.1 hm
  refine wl_call wn rfl (rt_call (vs := [.slice a1 n2 c3]) co74 rfl) ((ok_impl_wordsIn F) hS.enter0 hs4 hx7) ?_
  rintro e16 w10 ⟨a12, n13, c14, K9, rfl, hS11, hs15⟩
  refine ⟨_, rfl, ?_⟩
  have hS17 : SH _ _ _ _ _ [_] := SH.call0 hS hS11
  refine wl_val wn rfl (rv_move rfl) ?_
  refine wl_val wn rfl (rv_extract rfl rfl) ?_
  refine wl_val wn rfl (rv_extract rfl rfl) ?_
  refine wl_val wn rfl (rv_assign rfl) ?_
  refine wl_val wn rfl (rv_assign rfl) ?_
  refine wl_nil ?_
  refine qe_seq ?_
  refine wc_seq ?_
  refine wc_region ?_
  refine wl_buildSlice0 tStr wn rfl Try.underlying47 tf9 hS17 ?_
  intro a18 w19 K20 hl21 hs22 hS23
  refine wl_val wn rfl (rv_assign rfl) ?_
  refine wl_nil ?_
  refine qe_seq ?_
  refine wc_seq ?_
  refine wc_seq ?_
  refine wc_region ?_
  refine wl_val wn rfl (rv_move rfl) ?_
  refine wl_val wn rfl (rv_len (t := tStr) Try.underlying47 rfl (SliceAt.mono hl21 hs15)) ?_
  refine wl_val wn rfl (rv_move (v := .int .i64 0) rfl) ?_
  refine wl_nil ?_
  refine qe_seq ?_
  obtain ⟨o24, h25, h26⟩ := Option.bind_eq_some_iff.1 h8
  refine wc_cutg (fun E' w' => ∃ (a31 : Option Addr) (n32 c33 : Nat) (K27 : KMap), E' = [(7, .slice a31 n32 c33)] ∧ SH w K [] w' K27 [tail (.slice a31 n32 c33) 9 1] ∧ KLe K20 K27 ∧ SliceAt tStr K27 a31 n32 c33 o24) ?_ ?_
  · refine wc_block ?_
    obtain ⟨r36, h37, h38⟩ := Option.bind_eq_some_iff.1 h25
    have hS48 : SH _ _ _ _ _ [_] := SH.sublist hS23 (.cons_cons _ (.cons _ .slnil))
    refine wc_forE' (fun (i39 : Nat) (s35 : (List Str)) E' w' => ∃ (a44 : Option Addr) (n45 c46 : Nat) (K40 : KMap), E' = [(1, sv p1_s), (7, .slice a44 n45 c46), (16, .slice a12 n13 c14), (17, .int .i64 (r6.1.length : Int)), (18, .int .i64 ((i39 : Nat) : Int))] ∧ SH w K [] w' K40 [tail (.slice a44 n45 c46) 9 1] ∧ KLe K20 K40 ∧ SliceAt tStr K40 a44 n45 c46 s35) h37 ⟨a18, 0, 0, K20, rfl, hS48, (KLe.refl _), hs22⟩ ⟨rfl, rfl, rfl, rfl, rfl, trivial⟩ ?_ ?_
    · rintro i39 s35 _ w42 r49 hi50 h51 ⟨a44, n45, c46, K40, rfl, hS43, hl41, hs47⟩
      refine wc_seq (wc_region ?_)
      refine wl_val wn rfl (rv_lss rfl rfl) ?_
      refine wl_nil (qe_seq (wc_seq ?_))
      refine wc_cond_t rfl (decide_eq_true (by omega)) (wc_skip (qe_seq (wc_seq ?_)))
      refine wc_block ?_
      refine wc_seq ?_
      refine wc_region ?_
      obtain ⟨x53, hx54, h55⟩ := Option.bind_eq_some_iff.1 h51
      refine wl_indexAddr (t := tStr) wn rfl Try.underlying47 tf9 rfl rfl (SliceAt.mono (hl21.trans hl41) hs15) hx54 ?_
      intro b56 o57 u58 hu59 ha60
      obtain ⟨rfl, hl61⟩ := hu59
      have ha62 : AtK _ b56 o57 [sv x53] := ha60
      refine wl_val wn rfl (rv_load1 tf9 rfl hS43 (ha62 0 _ rfl)) ?_
      refine wl_val wn rfl (rv_assign rfl) ?_
      refine wl_nil ?_
      refine qe_seq ?_
      refine wc_seq ?_
      refine wc_region ?_
      refine wl_val wn rfl (rv_move rfl) ?_
      refine wl_val wn rfl (rv_move rfl) ?_
      obtain ⟨r63, hx64, h65⟩ := Option.bind_eq_some_iff.1 h55
      refine wl_call wn rfl (rt_call (vs := [sv x53, sv p1_s]) co76 rfl) ((ok_strings_HasPrefix F) hS43.enter0 hl61 hl5 hx64) ?_
      rintro e69 w67 ⟨K66, rfl, hS68⟩
      refine ⟨_, rfl, ?_⟩
      have hS70 : SH _ _ _ _ _ [_] := SH.call0 hS43 hS68
      refine wl_nil ?_
      refine qe_seq ?_
      refine wc_cond rfl (fun hb71 => ?_) (fun hb71 => ?_)
      · have h72 := cond_t hb71 h65
        refine wc_region ?_
        refine wl_val wn rfl (rv_move rfl) ?_
        refine wl_val wn rfl (rv_move rfl) ?_
        refine wl_buildSlice (t := tStr) (n := 1) (pv := [(0, sv x53)]) (cs := [sv x53]) (xs := [x53]) wn rfl Try.underlying47 tf9 rfl rfl rfl (by kernel_rfl) rfl rfl (lit_cons (u := sv x53) (z := x53) ⟨rfl, hl61⟩ lit_nil) hS70 ?_
        intro a73 w74 K75 hl76 hs77 hS78
        have hS79 : SH _ _ _ _ _ [_, _] := SH.front (p := [_]) hS78
        obtain ⟨x80, hx81, h82⟩ := Option.bind_eq_some_iff.1 h72
        refine wl_append (t := tStr) wn rfl Try.underlying47 tf9 rfl rfl rfl rfl rfl (SliceAt.mono (hS68.le.trans hl76) hs47) hs77 hx81 hS79 ?_
        intro a83 n84 c85 w86 K87 hl88 hs89 hS90
        refine wl_val wn rfl (rv_assign rfl) ?_
        refine wl_nil ?_
        refine qe_block ?_
        refine qe_seq (wc_region ?_)
        refine wl_val wn rfl (rv_add_to rfl rfl (w64_succ hi50 (SliceAt.max (SliceAt.mono hl21 hs15)))) ?_
        refine wl_val wn rfl (rv_move rfl) ?_
        refine wl_nil ?_
        obtain rfl := Option.some.inj h82
        have hS91 : SH _ _ _ _ _ [_] := SH.sublist hS90 (.cons_cons _ (.cons _ .slnil))
        exact qe_mid' ⟨a83, n84, c85, K87, rfl, hS91, (((hl41.trans hS68.le).trans hl76).trans hl88), hs89⟩ ⟨rfl, rfl, rfl, rfl, rfl, trivial⟩
      · have h72 := cond_f hb71 h65
        refine wc_skip ?_
        refine qe_block ?_
        refine qe_seq (wc_region ?_)
        refine wl_val wn rfl (rv_add_to rfl rfl (w64_succ hi50 (SliceAt.max (SliceAt.mono hl21 hs15)))) ?_
        refine wl_val wn rfl (rv_move rfl) ?_
        refine wl_nil ?_
        obtain rfl := Option.some.inj h72
        exact qe_mid' ⟨a44, n45, c46, K66, rfl, hS70, (hl41.trans hS68.le), (SliceAt.mono hS68.le hs47)⟩ ⟨rfl, rfl, rfl, rfl, rfl, trivial⟩
    · rintro s35 _ w42 hr92 ⟨a44, n45, c46, K40, rfl, hS43, hl41, hs47⟩
      subst hr92
      refine wc_seq (wc_region ?_)
      refine wl_val wn rfl (rv_lss rfl rfl) ?_
      refine wl_nil (qe_seq (wc_seq ?_))
      refine wc_cond_f rfl (decide_eq_false (by omega)) ?_
      refine wc_exit ?_
      refine qe_then_exit ?_
      refine qe_then_exit ?_
      refine qe_block_eq ?_
      obtain rfl := Option.some.inj h38
      exact qe_mid' ⟨a44, n45, c46, K40, rfl, hS43, hl41, hs47⟩ ⟨rfl, trivial⟩
  · rintro _ w29 ⟨a31, n32, c33, K27, rfl, hS30, hl28, hs34⟩
    refine qe_seq ?_
    refine wc_seq ?_
    refine wc_region ?_
    refine wl_val wn rfl (rv_move rfl) ?_
    refine wl_val wn rfl (rv_assign rfl) ?_
    refine wl_nil ?_
    refine qe_seq ?_
    refine wc_ret ?_
    obtain rfl := Option.some.inj h26
    exact qe_ret (vs := [_]) Try.results30 ⟨rfl, trivial⟩ ⟨a31, n32, c33, K27, rfl, hS30, hs34⟩
end Go.Proofs.Ytajfhpaokbgmeaa
