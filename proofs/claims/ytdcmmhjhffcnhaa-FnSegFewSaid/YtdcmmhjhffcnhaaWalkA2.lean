/-
 Walks of the functions. Printed by gen.py.
-/
import Derived.Test.YtdcmmhjhffcnhaaWalkA1
set_option linter.unusedVariables false
set_option maxRecDepth 100000
namespace Go.Proofs.Ytdcmmhjhffcnhaa
open Go Go.Fk Go.RowKit

theorem ok_impl_cloneDocs (F : Nat) {w : World} {K : KMap} {a1 : Option Addr} {n2 c3 : Nat} {p0_list : List GDoc} {r : (List GDoc)} (hS : SH w K [] w K []) (hs4 : SliceAt tGDoc K a1 n2 c3 p0_list) (hm : M.impl_cloneDocs F p0_list = some r) :
  Calls Try.prog 62 #[.slice a1 n2 c3] w fun e w' => ∃ (a_1 : Option Addr) (n_2 c_3 : Nat) (K' : KMap), e = .returned (.slice a_1 n_2 c_3) ∧ SH w K [] w' K' [tail (.slice a_1 n_2 c_3) 49 3] ∧ SliceAt tGDoc K' a_1 n_2 c_3 r := by
 rw [M.impl_cloneDocs] at hm
 refine calls_in Try.func62 rfl Try.ntmps62 rfl ?_
 refine sr ?_
 refine wl_val wn rfl (rv_assign (v := .slice none 0 0) rfl) ?_
 refine nr ?_
 refine wl_buildSlice0 tGDoc wn rfl Try.underlying23 tf49 hS ?_
 intro a5 w6 K7 hl8 hs9 hS10
 refine va rfl rfl ?_
 refine nsr ?_
 refine vm rfl rfl ?_
 refine wl_val wn rfl (rv_len (t := tGDoc) Try.underlying23 rfl (SliceAt.mono hl8 hs4)) ?_
 refine wl_val wn rfl (rv_move (v := .int .i64 0) rfl) ?_
 refine nq ?_
 obtain ⟨o11, h12, h13⟩ := ob hm
 refine wc_cutg (fun E' w' => ∃ (a18 : Option Addr) (n19 c20 : Nat) (K14 : KMap), E' = [(3, .slice a18 n19 c20)] ∧ SH w K [] w' K14 [tail (.slice a18 n19 c20) 49 3] ∧ KLe K7 K14 ∧ SliceAt tGDoc K14 a18 n19 c20 o11) ?_ ?_
 ·refine wc_block ?_
  obtain ⟨r23, h24, h25⟩ := ob h12
  refine wc_forE' (fun (i26 : Nat) (s22 : (List GDoc)) E' w' => ∃ (a31 : Option Addr) (n32 c33 : Nat) (K27 : KMap), E' = [(3, .slice a31 n32 c33), (7, .slice a1 n2 c3), (8, .int .i64 (p0_list.length : Int)), (9, .int .i64 ((i26 : Nat) : Int))] ∧ SH w K [] w' K27 [tail (.slice a31 n32 c33) 49 3] ∧ KLe K7 K27 ∧ SliceAt tGDoc K27 a31 n32 c33 s22) h24 ⟨a5, 0, 0, K7, rfl, hS10, (KLe.refl _), hs9⟩ ⟨rfl, rfl, rfl, rfl, trivial⟩ ?_ ?_
  ·rintro i26 s22 _ w29 r35 hi36 h37 ⟨a31, n32, c33, K27, rfl, hS30, hl28, hs34⟩
   refine sr ?_
   refine wl_val wn rfl (rv_lss rfl rfl) ?_
   refine ns ?_
   refine wc_cond_t rfl (decide_eq_true (by omega)) (wc_skip (qe_seq (wc_seq ?_)))
   refine wc_block ?_
   refine sr ?_
   obtain ⟨x39, hx40, h41⟩ := ob h37
   refine wl_indexAddr (t := tGDoc) wn rfl Try.underlying23 tf49 rfl rfl (SliceAt.mono (hl8.trans hl28) hs4) hx40 ?_
   intro b42 o43 u44 hu45 ha46
   obtain ⟨a48, n49, c50, a52, n53, c54, rfl, hr47, hs51, hs55⟩ := hu45
   have ha56 : AtK _ b42 o43 [.int .i64 x39.Id, .slice a48 n49 c50, .slice a52 n53 c54] := ha46
   refine wl_val wn rfl (rv_loadS (cs := [.int .i64 x39.Id, .slice a48 n49 c50, .slice a52 n53 c54]) tf49 rfl hS30 ha56 rfl) ?_
   refine wl_alloc wn rfl tf49 hS30 ?_
   intro g57 w58 hS59
   have hS60 : SH _ _ _ _ _ [obj g57 [.int .i64 0, .slice none 0 0, .slice none 0 0] 49, _] := hS59
   refine wl_store (cs' := [.int .i64 x39.Id, .slice a48 n49 c50, .slice a52 n53 c54]) (v := .agg #[.int .i64 x39.Id, .slice a48 n49 c50, .slice a52 n53 c54]) wn tf49 rfl rfl rfl (by simp [Value.cells, Value.oneCell']) hS60 rfl rfl ?_
   intro w61 hS62
   refine nq ?_
   refine wc_region ?_
   refine vm rfl rfl ?_
   refine wl_val wn rfl (rv_loadmS (ds := [.int .i64 x39.Id, .slice a48 n49 c50, .slice a52 n53 c54]) tf49 rfl (.head _) hS62 rfl rfl) ?_
   obtain ⟨r63, hx64, h65⟩ := ob h41
   refine wl_call wn rfl (rt_call (vs := [.agg #[.int .i64 x39.Id, .slice a48 n49 c50, .slice a52 n53 c54]]) co50 rfl) ((ok_impl_cloneDoc F) hS62.enter0 hr47 hs51 hs55 hx64) ?_
   rintro e78 w67 ⟨a70, n71, c72, a74, n75, c76, K66, rfl, hS68, hr69, hs73, hs77⟩
   refine ⟨_, rfl, ?_⟩
   have hS79 : SH _ _ _ _ _ [_, _, _, _] := SH.call0 hS62 hS68
   refine wl_buildSlice (t := tGDoc) (n := 1) (pv := [(0, .agg #[.int .i64 r63.Id, .slice a70 n71 c72, .slice a74 n75 c76])]) (cs := [.int .i64 r63.Id, .slice a70 n71 c72, .slice a74 n75 c76]) (xs := [r63]) wn rfl Try.underlying23 tf49 rfl rfl rfl (by kernel_rfl) rfl rfl (lit_cons (u := .agg #[.int .i64 r63.Id, .slice a70 n71 c72, .slice a74 n75 c76]) (z := r63) ⟨a70, n71, c72, a74, n75, c76, rfl, hr69, hs73, hs77⟩ lit_nil) hS79 ?_
   intro a80 w81 K82 hl83 hs84 hS85
   have hS86 : SH _ _ _ _ _ [_, _, _, _, _] := SH.front (p := [_, _, _, _]) hS85
   obtain ⟨x87, hx88, h89⟩ := ob h65
   refine wl_append (t := tGDoc) wn rfl Try.underlying23 tf49 rfl rfl rfl rfl rfl (SliceAt.mono (hS68.le.trans hl83) hs34) hs84 hx88 hS86 ?_
   intro a90 n91 c92 w93 K94 hl95 hs96 hS97
   refine va rfl rfl ?_
   refine nb ?_
   refine qg ?_
   refine wl_val wn rfl (rv_add_to rfl rfl (w64_succ hi36 (SliceAt.max (SliceAt.mono hl8 hs4)))) ?_
   refine vm rfl rfl ?_
   refine wl_nil ?_
   obtain rfl := oi h89
   have hS98 : SH _ _ _ _ _ [_] := SH.sublist hS97 (.cons_cons _ (.cons _ (.cons _ (.cons _ (.cons _ .slnil)))))
   exact qe_mid' ⟨a90, n91, c92, K94, rfl, hS98, (((hl28.trans hS68.le).trans hl83).trans hl95), hs96⟩ ⟨rfl, rfl, rfl, rfl, trivial⟩
  ·rintro s22 _ w29 hr99 ⟨a31, n32, c33, K27, rfl, hS30, hl28, hs34⟩
   subst hr99
   refine sr ?_
   refine wl_val wn rfl (rv_lss rfl rfl) ?_
   refine ns ?_
   refine wc_cond_f rfl (decide_eq_false (by omega)) ?_
   refine wc_exit ?_
   refine qe_then_exit ?_
   refine qe_then_exit ?_
   refine qe_block_eq ?_
   obtain rfl := oi h25
   exact qe_mid' ⟨a31, n32, c33, K27, rfl, hS30, hl28, hs34⟩ ⟨rfl, trivial⟩
 ·rintro _ w16 ⟨a18, n19, c20, K14, rfl, hS17, hl15, hs21⟩
  refine qr ?_
  refine vm rfl rfl ?_
  refine va rfl rfl ?_
  refine nq ?_
  refine wc_ret ?_
  obtain rfl := oi h13
  exact qe_ret (vs := [_]) Try.results62 ⟨rfl, trivial⟩ ⟨a18, n19, c20, K14, rfl, hS17, hs21⟩

theorem ok_impl_Seg_put_1 (F : Nat) {w : World} {K : KMap} {a3 : Option Addr} {n4 c5 : Nat} {g7 : Nat} {g9 : Nat} {p0_e : GEntry} {p1_x : Str} {p2_x : GTerm} {r : Bool} (hS : SH w K (List.flatMap Item.gs [obj g7 [sv p1_x] 9, obj g9 [sv p2_x.Text, .int .i64 p2_x.At] 74]) w K [obj g7 [sv p1_x] 9, obj g9 [sv p2_x.Text, .int .i64 p2_x.At] 74]) (hl1 : p0_e.Field.length ≤ maxLen) (hl2 : p0_e.Term.length ≤ maxLen) (hs6 : SliceAt tGPost K a3 n4 c5 p0_e.Posts) (hl8 : p1_x.length ≤ maxLen) (hl10 : p2_x.Text.length ≤ maxLen) (hr11 : rng64 p2_x.At) (hm : M.impl_Seg_put_1 F p0_e p1_x p2_x = some r) :
  Calls Try.prog 99 #[.agg #[sv p0_e.Field, sv p0_e.Term, .slice a3 n4 c5], .pointer (some ⟨g7, 0, none⟩), .pointer (some ⟨g9, 0, none⟩)] w fun e w' => ∃ (K' : KMap), e = .returned (.bool r) ∧ SH w K (List.flatMap Item.gs [obj g7 [sv p1_x] 9, obj g9 [sv p2_x.Text, .int .i64 p2_x.At] 74]) w' K' [obj g7 [sv p1_x] 9, obj g9 [sv p2_x.Text, .int .i64 p2_x.At] 74] := by
 rw [M.impl_Seg_put_1] at hm
 refine calls_in Try.func99 rfl Try.ntmps99 rfl ?_
 refine sr ?_
 refine wl_box wn rfl rfl hS ?_
 intro g12 w13 hS14
 have hS15 : SH _ _ _ _ _ [obj g12 [sv p0_e.Field, sv p0_e.Term, .slice a3 n4 c5] 60, _, _] := hS14
 refine wl_val wn rfl (rv_assign (v := .bool false) rfl) ?_
 refine nr ?_
 refine wl_val wn rfl (rv_fieldAddr ff60_0 rfl) ?_
 refine wl_val wn rfl (rv_loadm1 tf9 rfl (.head _) hS15 rfl) ?_
 refine wl_val wn rfl (rv_loadm1 tf9 rfl (.tail _ (.head _)) hS15 rfl) ?_
 refine wl_val wn rfl (rv_seql rfl rfl) ?_
 refine vm rfl rfl ?_
 rcases bool_tf ((p0_e.Field == p1_x)) with hb16 | hb16
 ·have h17 := cond_t hb16 hm
  refine wl_val (wg rfl rfl hb16) rfl (rv_fieldAddr ff60_1 rfl) ?_
  refine wl_val (wg rfl rfl hb16) rfl (rv_loadm1 tf9 rfl (.head _) hS15 rfl) ?_
  refine wl_val (wg rfl rfl hb16) rfl (rv_fieldAddr ff74_0 rfl) ?_
  refine wl_val (wg rfl rfl hb16) rfl (rv_loadm1 tf9 rfl (.tail _ (.tail _ (.head _))) hS15 rfl) ?_
  refine wl_val (wg rfl rfl hb16) rfl (rv_seql rfl rfl) ?_
  refine wl_val wn rfl (rv_pick_t rfl hb16 rfl) ?_
  refine va rfl rfl ?_
  refine nq ?_
  refine wc_ret ?_
  obtain rfl := oi h17
  have hS18 : SH _ _ _ _ _ [_, _] := SH.sublist hS15 (.cons _ (.cons_cons _ (.cons_cons _ .slnil)))
  exact qe_ret (vs := [_]) Try.results99 ⟨rfl, trivial⟩ ⟨K, rfl, hS18⟩
 ·have h17 := cond_f hb16 hm
  refine wl_un (ug rfl rfl hb16) rfl ?_
  refine wl_un (ug rfl rfl hb16) rfl ?_
  refine wl_un (ug rfl rfl hb16) rfl ?_
  refine wl_un (ug rfl rfl hb16) rfl ?_
  refine wl_un (ug rfl rfl hb16) rfl ?_
  refine wl_val wn rfl (rv_pick_f (v := .bool false) rfl hb16 rfl) ?_
  refine va rfl rfl ?_
  refine nq ?_
  refine wc_ret ?_
  obtain rfl := oi h17
  have hS19 : SH _ _ _ _ _ [_, _] := SH.sublist hS15 (.cons _ (.cons_cons _ (.cons_cons _ .slnil)))
  exact qe_ret (vs := [_]) Try.results99 ⟨rfl, trivial⟩ ⟨K, rfl, hS19⟩

theorem ok_slices_IndexFunc_Entry__impl_Seg_put_1 (F : Nat) {w : World} {K : KMap} {a1 : Option Addr} {n2 c3 : Nat} {g5 : Nat} {g7 : Nat} {p0_s : List GEntry} {p1_f_c0 : Str} {p1_f_c1 : GTerm} {r : Int} (hS : SH w K (List.flatMap Item.gs [obj g5 [sv p1_f_c0] 9, obj g7 [sv p1_f_c1.Text, .int .i64 p1_f_c1.At] 74]) w K [obj g5 [sv p1_f_c0] 9, obj g7 [sv p1_f_c1.Text, .int .i64 p1_f_c1.At] 74]) (hs4 : SliceAt tGEntry K a1 n2 c3 p0_s) (hl6 : p1_f_c0.length ≤ maxLen) (hl8 : p1_f_c1.Text.length ≤ maxLen) (hr9 : rng64 p1_f_c1.At) (hm : M.slices_IndexFunc_Entry__impl_Seg_put_1 F p0_s p1_f_c0 p1_f_c1 = some r) :
  Calls Try.prog 98 #[.slice a1 n2 c3, .func (.func 99) #[] #[.pointer (some ⟨g5, 0, none⟩), .pointer (some ⟨g7, 0, none⟩)]] w fun e w' => ∃ (K' : KMap), e = .returned (.int .i64 r) ∧ SH w K (List.flatMap Item.gs [obj g5 [sv p1_f_c0] 9, obj g7 [sv p1_f_c1.Text, .int .i64 p1_f_c1.At] 74]) w' K' [obj g5 [sv p1_f_c0] 9, obj g7 [sv p1_f_c1.Text, .int .i64 p1_f_c1.At] 74] ∧ rng64 r := by
 rw [M.slices_IndexFunc_Entry__impl_Seg_put_1] at hm
 refine calls_in Try.func98 rfl Try.ntmps98 rfl ?_
 refine sr ?_
 refine wl_val wn rfl (rv_assign (v := .int .i64 0) rfl) ?_
 refine nsr ?_
 refine vm rfl rfl ?_
 refine wl_val wn rfl (rv_len (t := tGEntry) Try.underlying40 rfl hs4) ?_
 refine wl_val wn rfl (rv_move (v := .int .i64 0) rfl) ?_
 refine nq ?_
 obtain ⟨o10, h11, h12⟩ := ob hm
 refine wc_cutg (fun E' w' => ∃ (s13 : Unit) (K14 : KMap), o10 = .inl s13 ∧ E' = [] ∧ SH w K (List.flatMap Item.gs [obj g5 [sv p1_f_c0] 9, obj g7 [sv p1_f_c1.Text, .int .i64 p1_f_c1.At] 74]) w' K14 [obj g5 [sv p1_f_c0] 9, obj g7 [sv p1_f_c1.Text, .int .i64 p1_f_c1.At] 74] ∧ KLe K K14) ?_ ?_
 ·refine wc_block ?_
  obtain ⟨r19, h20, h21⟩ := ob h11
  refine wc_for' (fun (i22 : Nat) (s18 : Unit) E' w' => ∃ (K23 : KMap), E' = [(0, .slice a1 n2 c3), (1, .func (.func 99) #[] #[.pointer (some ⟨g5, 0, none⟩), .pointer (some ⟨g7, 0, none⟩)]), (7, .int .i64 (p0_s.length : Int)), (8, .int .i64 ((i22 : Nat) : Int))] ∧ SH w K (List.flatMap Item.gs [obj g5 [sv p1_f_c0] 9, obj g7 [sv p1_f_c1.Text, .int .i64 p1_f_c1.At] 74]) w' K23 [obj g5 [sv p1_f_c0] 9, obj g7 [sv p1_f_c1.Text, .int .i64 p1_f_c1.At] 74] ∧ KLe K K23) h20 ⟨K, rfl, hS, (KLe.refl _)⟩ ⟨rfl, rfl, rfl, rfl, trivial⟩ ?_ ?_
  ·rintro i22 s18 _ w25 r27 hi28 h29 hx30 ⟨K23, rfl, hS26, hl24⟩
   refine sr ?_
   refine wl_val wn rfl (rv_lss rfl rfl) ?_
   refine ns ?_
   refine wc_cond_t rfl (decide_eq_true (by omega)) (wc_skip (qe_seq (wc_seq ?_)))
   refine wc_block ?_
   refine sr ?_
   refine vm rfl rfl ?_
   refine va rfl rfl ?_
   refine nr ?_
   refine vm rfl rfl ?_
   refine vm rfl rfl ?_
   refine vm rfl rfl ?_
   obtain ⟨x31, hx32, h33⟩ := ob h29
   refine wl_indexAddr (t := tGEntry) wn rfl Try.underlying40 tf60 rfl rfl (SliceAt.mono hl24 hs4) hx32 ?_
   intro b34 o35 u36 hu37 ha38
   obtain ⟨a41, n42, c43, rfl, hl39, hl40, hs44⟩ := hu37
   have ha45 : AtK _ b34 o35 [sv x31.Field, sv x31.Term, .slice a41 n42 c43] := ha38
   refine wl_val wn rfl (rv_loadS (cs := [sv x31.Field, sv x31.Term, .slice a41 n42 c43]) tf60 rfl hS26 ha45 rfl) ?_
   obtain ⟨r46, hx47, h48⟩ := ob h33
   have hS49 : SH _ _ _ _ _ [_, _] := SH.front (p := [_]) hS26
   have hS50 : SH _ _ _ _ _ [_, _] := SH.front (p := [_]) hS49
   refine wl_call wn rfl (rt_callv (vs := [.agg #[sv x31.Field, sv x31.Term, .slice a41 n42 c43]]) (cap := #[.pointer (some ⟨g5, 0, none⟩), .pointer (some ⟨g7, 0, none⟩)]) co99 rfl rfl) ((ok_impl_Seg_put_1 F) (SH.enter (Lin := [_, _]) hS50) hl39 hl40 hs44 hl6 hl8 hr9 hx47) ?_
   rintro e54 w52 ⟨K51, rfl, hS53⟩
   refine ⟨_, rfl, ?_⟩
   have hS55 : SH _ _ _ _ _ [_, _] := SH.call (Lin := [_, _]) hS50 hS53
   refine nq ?_
   refine wc_cond rfl (fun hb56 => ?_) (fun hb56 => ?_)
   ·have h57 := cond_t hb56 h48
    refine sr ?_
    refine vm rfl rfl ?_
    refine va rfl rfl ?_
    refine nq ?_
    refine wc_ret ?_
    refine qe_block_ret ?_
    refine qe_then_ret ?_
    refine qe_then_ret ?_
    obtain rfl := oi h57
    have e58 := hx30 _ rfl
    subst e58
    refine qe_block_ret ?_
    refine qe_then_ret ?_
    obtain rfl := oi h21
    refine qe_then_ret ?_
    obtain rfl := oi h12
    exact qe_ret (vs := [_]) Try.results98 ⟨rfl, trivial⟩ ⟨K51, rfl, hS55, (rng_idx hi28 (SliceAt.max hs4))⟩
   ·have h57 := cond_f hb56 h48
    refine wc_skip ?_
    refine qe_block ?_
    refine qg ?_
    refine wl_val wn rfl (rv_add_to rfl rfl (w64_succ hi28 (SliceAt.max hs4))) ?_
    refine vm rfl rfl ?_
    refine wl_nil ?_
    obtain rfl := oi h57
    exact qe_mid' ⟨_, rfl, K51, rfl, hS55, (hl24.trans hS53.le)⟩ ⟨rfl, rfl, rfl, rfl, trivial⟩
  ·rintro s18 _ w25 hr59 ⟨K23, rfl, hS26, hl24⟩
   subst hr59
   refine sr ?_
   refine wl_val wn rfl (rv_lss rfl rfl) ?_
   refine ns ?_
   refine wc_cond_f rfl (decide_eq_false (by omega)) ?_
   refine wc_exit ?_
   refine qe_then_exit ?_
   refine qe_then_exit ?_
   refine qe_block_eq ?_
   obtain rfl := oi h21
   exact qe_mid' ⟨_, K23, rfl, rfl, hS26, hl24⟩ trivial
 ·rintro _ w16 ⟨s13, K14, rfl, rfl, hS17, hl15⟩
  refine qr ?_
  refine wl_val wn rfl (rv_assign (v := .int .i64 (-1)) rfl) ?_
  refine nq ?_
  refine wc_ret ?_
  obtain rfl := oi h12
  exact qe_ret (vs := [_]) Try.results98 ⟨rfl, trivial⟩ ⟨K14, rfl, hS17, (by decide : rng64 (-1))⟩

set_option maxHeartbeats 2000000 in
theorem ok_impl_Seg_put (F : Nat) {w : World} {K : KMap} {g : Nat} {a1 : Option Addr} {n1 c1 : Nat} {a : Option Addr} {n c : Nat} {lay : List ELay} {p0_s : GSeg} {p1_field : Str} {p2_t : GTerm} {p3_id : Int} {r : GSeg} (hS0 : SH w K (List.flatMap Item.gs [obj g [.slice a1 n1 c1, .slice a n c] 42, pack (segItems 60 64 3 a n c lay)]) w K [obj g [.slice a1 n1 c1, .slice a n c] 42, pack (segItems 60 64 3 a n c lay)]) (hs1 : SliceAt tGDoc K a1 n1 c1 p0_s.Docs) (hl0 : LayOk lay p0_s.Entries) (hl1 : p1_field.length ≤ maxLen) (hl2 : p2_t.Text.length ≤ maxLen) (hr2 : rng64 p2_t.At) (hr3 : rng64 p3_id) (hm : M.impl_Seg_put F p0_s p1_field p2_t p3_id = some r) :
  Calls Try.prog 63 #[.pointer (some ⟨g, 0, none⟩), sv p1_field, .agg #[sv p2_t.Text, .int .i64 p2_t.At], .int .i64 p3_id] w fun e w' => ∃ (a_1 : Option Addr) (n_2 c_3 : Nat) (a_4 : Option Addr) (n_5 c_6 : Nat) (lay_7 : List ELay) (K' : KMap), e = .returned (.tuple #[]) ∧ SH w K (List.flatMap Item.gs [obj g [.slice a1 n1 c1, .slice a n c] 42, pack (segItems 60 64 3 a n c lay)]) w' K' [obj g [.slice a_1 n_2 c_3, .slice a_4 n_5 c_6] 42, pack (segItems 60 64 3 a_4 n_5 c_6 lay_7)] ∧ SliceAt tGDoc K' a_1 n_2 c_3 r.Docs ∧ LayOk lay_7 r.Entries := by
 rw [M.impl_Seg_put] at hm
 obtain ⟨k, hx1, h1⟩ := ob hm
 obtain ⟨es, hx2, h2⟩ := ob h1
 obtain ⟨en, hx3, h3⟩ := ob h2
 obtain ⟨ps, hx4, h4⟩ := ob h3
 obtain ⟨p, hx5, h5⟩ := ob h4
 obtain ⟨at_, hx6, h6⟩ := ob h5
 obtain rfl := oi h6
 have hS1 : SH w K (List.flatMap Item.gs [obj g [.slice a1 n1 c1, .slice a n c] 42, pack (segItems 60 64 3 a n c lay)]) w K (segTop 60 a n c lay :: ((lay).flatMap (ELay.items 64 3) ++ [obj g [.slice a1 n1 c1, .slice a n c] 42])) := (hS0.perm (List.Perm.swap _ _ _)).unpack
 have hS2 : SH w K (List.flatMap Item.gs [obj g [.slice a1 n1 c1, .slice a n c] 42, pack (segItems 60 64 3 a n c lay)]) w K (obj g [.slice a1 n1 c1, .slice a n c] 42 :: segTop 60 a n c lay :: (lay).flatMap (ELay.items 64 3)) := hS1.perm (by rw [← List.cons_append]; exact List.perm_append_singleton _ _ |>.symm)
 generalize hMM : (List.flatMap Item.gs [obj g [.slice a1 n1 c1, .slice a n c] 42, pack (segItems 60 64 3 a n c lay)]) = MM at *
 refine calls_in Try.func63 rfl Try.ntmps63 rfl ?_
 refine sr ?_
 refine wl_box wn rfl rfl hS2 ?_
 intro g5 w5 hS3'
 have hS3 : SH w K MM w5 K (obj g5 [sv p1_field] 9 :: obj g [.slice a1 n1 c1, .slice a n c] 42 :: segTop 60 a n c lay :: (lay).flatMap (ELay.items 64 3)) := hS3'
 refine wl_box wn rfl rfl hS3 ?_
 intro g6 w6 hS4'
 have hS4 : SH w K MM w6 K (obj g6 [sv p2_t.Text, .int .i64 p2_t.At] 74 :: obj g5 [sv p1_field] 9 :: obj g [.slice a1 n1 c1, .slice a n c] 42 :: segTop 60 a n c lay :: (lay).flatMap (ELay.items 64 3)) := hS4'
 refine nr ?_
 refine vm rfl rfl ?_
 refine wl_val wn rfl (rv_nilCheck rfl) ?_
 refine wl_val wn rfl (rv_fieldAddr ff42_1 rfl) ?_
 refine wl_val wn rfl (rv_loadm1 tf40 rfl (.tail _ (.tail _ (.head _))) hS4 rfl) ?_
 refine wl_val wn rfl (rv_makeFunc (vs := [.pointer (some ⟨g5, 0, none⟩), .pointer (some ⟨g6, 0, none⟩)]) rfl) ?_
 obtain ⟨gs, hgs⟩ : ∃ gs, gs = (segTop 60 a n c lay :: (lay).flatMap (ELay.items 64 3)).flatMap Item.gs := ⟨_, rfl⟩
 have hS5 : SH w K MM w6 K ([obj g5 [sv p1_field] 9, obj g6 [sv p2_t.Text, .int .i64 p2_t.At] 74] ++ (obj g [.slice a1 n1 c1, .slice a n c] 42 :: segTop 60 a n c lay :: (lay).flatMap (ELay.items 64 3))) := hS4.perm (List.Perm.swap _ _ _)
 have hnd := hS5.nodup
 rw [List.flatMap_append, List.nodup_append, List.flatMap_cons] at hnd
 have hg56 : g5 ∉ gs ∧ g6 ∉ gs := by
  rw [hgs]
  exact ⟨fun hb => hnd.2.2 g5 (by simp [obj, Go.Fk.one]) g5 (List.mem_append_right _ hb) rfl, fun hb => hnd.2.2 g6 (by simp [obj, Go.Fk.one]) g6 (List.mem_append_right _ hb) rfl⟩
 have hseg := seg_lent (TE := 60) (TP := 64) (TI := 3) (gs := gs) hS5 (fun it hi => List.mem_append_right _ (List.mem_cons_of_mem _ hi)) (fun it hi b hb => by rw [hgs]; exact List.mem_flatMap.2 ⟨it, hi, hb⟩) hl0
 have hlnd := hS5.lend (Kin := seeK K w6 gs) (see_holds hS5.holds) (fun it hi => by
  rcases List.mem_cons.1 hi with rfl | hi
  ·exact obj_see (hS5.items _ (List.mem_cons_self ..)) hg56.1
  ·rcases List.mem_singleton.1 hi with rfl
   exact obj_see (hS5.items _ (List.mem_cons_of_mem _ (List.mem_cons_self ..))) hg56.2)
 refine wl_call wn rfl (rt_call (vs := [.slice a n c, .func (.func 99) #[] #[.pointer (some ⟨g5, 0, none⟩), .pointer (some ⟨g6, 0, none⟩)]]) co98 rfl) ((ok_slices_IndexFunc_Entry__impl_Seg_put_1 F) hlnd hseg.1 hl1 hl2 hr2 hx1) ?_
 rintro e7 w7 ⟨K7, rfl, hS7', hr7⟩
 refine ⟨_, rfl, ?_⟩
 have hS6 : SH w K MM w7 K ([obj g5 [sv p1_field] 9, obj g6 [sv p2_t.Text, .int .i64 p2_t.At] 74] ++ (obj g [.slice a1 n1 c1, .slice a n c] 42 :: segTop 60 a n c lay :: (lay).flatMap (ELay.items 64 3))) := hS5.lent (see_le hS5.holds) hS7' rfl (fun it hi => by
  rcases List.mem_cons.1 hi with rfl | hi
  ·exact obj_on (hS7'.items _ (List.mem_cons_self ..)) ((see_le hS5.holds).trans hS7'.le)
  ·rcases List.mem_singleton.1 hi with rfl
   exact obj_on (hS7'.items _ (List.mem_cons_of_mem _ (List.mem_cons_self ..))) ((see_le hS5.holds).trans hS7'.le))
 have hS7 : SH w K MM w7 K (obj g6 [sv p2_t.Text, .int .i64 p2_t.At] 74 :: obj g5 [sv p1_field] 9 :: obj g [.slice a1 n1 c1, .slice a n c] 42 :: segTop 60 a n c lay :: (lay).flatMap (ELay.items 64 3)) := hS6.perm (List.Perm.swap _ _ _)
 refine va rfl rfl ?_
 refine nsr ?_
 refine vm rfl rfl ?_
 refine wl_val wn rfl (rv_lss rfl rfl) ?_
 refine nq ?_
 refine wc_cutg (fun E' w' => ∃ (a2 : Option Addr) (n2 c2 : Nat) (lay2 : List ELay) (K2 : KMap), E' = [(0, .pointer (some ⟨g, 0, none⟩)), (3, .int .i64 p3_id), (6, .pointer (some ⟨g6, 0, none⟩)), (8, .int .i64 (cond (decide (k < 0)) (p0_s.Entries.length : Int) k))] ∧ SH w K MM w' K2 (obj g6 [sv p2_t.Text, .int .i64 p2_t.At] 74 :: obj g5 [sv p1_field] 9 :: obj g [.slice a1 n1 c1, .slice a2 n2 c2] 42 :: segTop 60 a2 n2 c2 lay2 :: (lay2).flatMap (ELay.items 64 3)) ∧ KLe K K2 ∧ LayOk lay2 es) ?_ ?_
 ·refine wc_cond rfl (fun hb => ?_) (fun hb => ?_)
  ·rw [hb] at hx2 ⊢
   simp only [cond_true] at hx2 ⊢
   refine sr ?_
   refine vm rfl rfl ?_
   refine wl_val wn rfl (rv_nilCheck rfl) ?_
   refine wl_val wn rfl (rv_fieldAddr ff42_1 rfl) ?_
   refine wl_val wn rfl (rv_loadm1 tf40 rfl (.tail _ (.tail _ (.head _))) hS7 rfl) ?_
   refine wl_val wn rfl (rv_lenRow Try.underlying40 rfl hseg.2) ?_
   refine va rfl rfl ?_
   refine nq ?_
   refine wc_held (fun w' => Holds K w' ∧ HasObj g5 [sv p1_field] w' ∧ HasObj g6 [sv p2_t.Text, .int .i64 p2_t.At] w') (fun w' => HasObj g [.slice a1 n1 c1, .slice a n c] w') 13 [(4, 10), (10, 13)] mixed ?_
   have hS8 := SH.drew hS7
   refine wg_val (i := 0) (listed' := #[true, false, false, false, false, false, false, false, false, false, false, false, false, false]) (fun _ => True) rfl (by kernel_rfl) (by repeat (first | exact pk_body | refine pk_then ?_ | refine pk_block ?_)) (by kernel_rfl) rfl (by kernel_rfl) (by kernel_rfl) rfl (.inl fun _ _ => trivial) ⟨⟨hS8.hasK (KLe.refl _), hS8.hasObj (.tail _ (.head _)), hS8.hasObj (.head _)⟩, (fun _ => hS8.hasObj (.tail _ (.tail _ (.head _)))), by decide⟩ wn rfl (fun _ _ => (rv_move rfl)) ?_
   refine wg_val (i := 1) (listed' := #[true, true, false, false, false, false, false, false, false, false, false, false, false, false]) (fun _ => True) rfl (by kernel_rfl) (by repeat (first | exact pk_body | refine pk_then ?_ | refine pk_block ?_)) (by kernel_rfl) rfl (by kernel_rfl) (by kernel_rfl) rfl (.inl fun _ _ => trivial) ⟨⟨hS8.hasK (KLe.refl _), hS8.hasObj (.tail _ (.head _)), hS8.hasObj (.head _)⟩, (fun _ => hS8.hasObj (.tail _ (.tail _ (.head _)))), by decide⟩ wn rfl (fun _ _ => (rv_move rfl)) ?_
   refine wg_val (i := 2) (listed' := #[true, true, true, false, false, false, false, false, false, false, false, false, false, false]) (fun _ => True) rfl (by kernel_rfl) (by repeat (first | exact pk_body | refine pk_then ?_ | refine pk_block ?_)) (by kernel_rfl) rfl (by kernel_rfl) (by kernel_rfl) rfl (.inl fun _ _ => trivial) ⟨⟨hS8.hasK (KLe.refl _), hS8.hasObj (.tail _ (.head _)), hS8.hasObj (.head _)⟩, (fun _ => hS8.hasObj (.tail _ (.tail _ (.head _)))), by decide⟩ wn rfl (fun _ _ => (rv_nilCheck rfl)) ?_
   refine wg_val (i := 3) (listed' := #[true, true, true, true, false, false, false, false, false, false, false, false, false, false]) (fun _ => True) rfl (by kernel_rfl) (by repeat (first | exact pk_body | refine pk_then ?_ | refine pk_block ?_)) (by kernel_rfl) rfl (by kernel_rfl) (by kernel_rfl) rfl (.inl fun _ _ => trivial) ⟨⟨hS8.hasK (KLe.refl _), hS8.hasObj (.tail _ (.head _)), hS8.hasObj (.head _)⟩, (fun _ => hS8.hasObj (.tail _ (.tail _ (.head _)))), by decide⟩ wn rfl (fun _ _ => (rv_fieldAddr ff42_1 rfl)) ?_
   refine wg_val (i := 4) (listed' := #[true, true, true, true, true, false, false, false, false, false, false, false, false, false]) (HasObj g [.slice a1 n1 c1, .slice a n c]) rfl (by kernel_rfl) (by repeat (first | exact pk_body | refine pk_then ?_ | refine pk_block ?_)) (by kernel_rfl) rfl (by kernel_rfl) (by kernel_rfl) rfl (.inr ⟨rfl, fun _ _ h => h⟩) ⟨⟨hS8.hasK (KLe.refl _), hS8.hasObj (.tail _ (.head _)), hS8.hasObj (.head _)⟩, (fun _ => hS8.hasObj (.tail _ (.tail _ (.head _)))), by decide⟩ wn rfl (fun _ h => rh_loadm1 tf40 rfl rfl h) ?_
   refine wg_val (i := 5) (listed' := #[true, true, true, true, true, true, false, false, false, false, false, false, false, false]) (HasObj g5 [sv p1_field]) rfl (by kernel_rfl) (by repeat (first | exact pk_body | refine pk_then ?_ | refine pk_block ?_)) (by kernel_rfl) rfl (by kernel_rfl) (by kernel_rfl) rfl (.inl fun _ h => h.2.1) ⟨⟨hS8.hasK (KLe.refl _), hS8.hasObj (.tail _ (.head _)), hS8.hasObj (.head _)⟩, (fun _ => hS8.hasObj (.tail _ (.tail _ (.head _)))), by decide⟩ wn rfl (fun _ h => rh_loadm1 tf9 rfl rfl h) ?_
   refine wg_val (i := 6) (listed' := #[true, true, true, true, true, true, true, false, false, false, false, false, false, false]) (fun _ => True) rfl (by kernel_rfl) (by repeat (first | exact pk_body | refine pk_then ?_ | refine pk_block ?_)) (by kernel_rfl) rfl (by kernel_rfl) (by kernel_rfl) rfl (.inl fun _ _ => trivial) ⟨⟨hS8.hasK (KLe.refl _), hS8.hasObj (.tail _ (.head _)), hS8.hasObj (.head _)⟩, (fun _ => hS8.hasObj (.tail _ (.tail _ (.head _)))), by decide⟩ wn rfl (fun _ _ => (rv_fieldAddr ff74_0 rfl)) ?_
   refine wg_val (i := 7) (listed' := #[true, true, true, true, true, true, true, true, false, false, false, false, false, false]) (HasObj g6 [sv p2_t.Text, .int .i64 p2_t.At]) rfl (by kernel_rfl) (by repeat (first | exact pk_body | refine pk_then ?_ | refine pk_block ?_)) (by kernel_rfl) rfl (by kernel_rfl) (by kernel_rfl) rfl (.inl fun _ h => h.2.2) ⟨⟨hS8.hasK (KLe.refl _), hS8.hasObj (.tail _ (.head _)), hS8.hasObj (.head _)⟩, (fun _ => hS8.hasObj (.tail _ (.tail _ (.head _)))), by decide⟩ wn rfl (fun _ h => rh_loadm1 tf9 rfl rfl h) ?_
   refine wg_val (i := 8) (listed' := #[true, true, true, true, true, true, true, true, true, false, false, false, false, false]) (fun _ => True) rfl (by kernel_rfl) (by repeat (first | exact pk_body | refine pk_then ?_ | refine pk_block ?_)) (by kernel_rfl) rfl (by kernel_rfl) (by kernel_rfl) rfl (.inl fun _ _ => trivial) ⟨⟨hS8.hasK (KLe.refl _), hS8.hasObj (.tail _ (.head _)), hS8.hasObj (.head _)⟩, (fun _ => hS8.hasObj (.tail _ (.tail _ (.head _)))), by decide⟩ wn rfl (fun _ _ => (rv_build (cs := #[sv p1_field, sv p2_t.Text, .slice none 0 0]) sp60 tf60 rfl (by kernel_rfl))) ?_
   refine wg_one (i := 9) (by kernel_rfl) rfl ?_
   refine wl_buildSlice (t := tRaw 3) (n := 1) (pv := [(0, .agg #[sv p1_field, sv p2_t.Text, .slice none 0 0])]) (cs := [sv p1_field, sv p2_t.Text, .slice none 0 0]) (xs := [([sv p1_field, sv p2_t.Text, .slice none 0 0] : List Value)]) wn rfl Try.underlying40 tf60 rfl rfl rfl (by kernel_rfl) rfl rfl (lit_cons (t := tRaw 3) (u := .agg #[sv p1_field, sv p2_t.Text, .slice none 0 0]) (z := ([sv p1_field, sv p2_t.Text, .slice none 0 0] : List Value)) ⟨rfl, rfl, by simp [Value.oneCell', sv]⟩ lit_nil) hS8 ?_
   intro a9 w9 K9 hl9 hs9 hS9'
   obtain ⟨b9, o9, rfl⟩ := raw_addr hs9
   have hk9 := raw_lit hs9
   have hS9 := hS9'.drop
   refine wl_nil (qe_held (listed' := #[true, true, true, true, true, true, true, true, true, true, false, false, false, false]) rfl ⟨⟨hS9.hasK hl9, hS9.hasObj (.tail _ (.head _)), hS9.hasObj (.head _)⟩, (fun _ => hS9.hasObj (.tail _ (.tail _ (.head _)))), by decide⟩ ?_)
   unfold catL at hx2
   split at hx2
   case isFalse => cases hx2
   rename_i hbd
   cases hx2
   have hnl : n = p0_s.Entries.length := hseg.2
   have hS9t : SH w K MM w9 K9 (rowI (.slice a n c) (lay.flatMap ELay.cells) 60 3 :: (obj g6 [sv p2_t.Text, .int .i64 p2_t.At] 74 :: obj g5 [sv p1_field] 9 :: obj g [.slice a1 n1 c1, .slice a n c] 42 :: (lay).flatMap (ELay.items 64 3))) := hS9.perm (List.perm_middle (l₁ := [_, _, _])).symm
   refine wg_one (i := 10) (by kernel_rfl) rfl ?_
   have hcl9 : (lay.flatMap ELay.cells).length = n * 3 := by rw [sg_cells3, ← sg_top_len hS9t (List.mem_cons_self ..)]
   refine wl_appendI wn rfl Try.underlying40 tf60 rfl rfl rfl (by decide) rfl hk9 (by simp [Value.oneCell', sv]) hcl9 (by simp at hbd; omega) (by simp at hbd; omega) hS9t ?_
   intro g10 c10 w10 hS10
   refine wl_nil (qe_held (listed' := #[true, true, true, true, true, true, true, true, true, true, true, false, false, false]) rfl ⟨⟨hS10.hasK hl9, hS10.hasObj (.tail _ (.tail _ (.head _))), hS10.hasObj (.tail _ (.head _))⟩, (fun _ => hS10.hasObj (.tail _ (.tail _ (.tail _ (.head _))))), by decide⟩ ?_)
   refine wg_val (i := 11) (listed' := #[true, true, true, true, true, true, true, true, true, true, true, true, false, false]) (fun _ => True) rfl (by kernel_rfl) (by repeat (first | exact pk_body | refine pk_then ?_ | refine pk_block ?_)) (by kernel_rfl) rfl (by kernel_rfl) (by kernel_rfl) rfl (.inl fun _ _ => trivial) ⟨⟨hS10.hasK hl9, hS10.hasObj (.tail _ (.tail _ (.head _))), hS10.hasObj (.tail _ (.head _))⟩, (fun _ => hS10.hasObj (.tail _ (.tail _ (.tail _ (.head _))))), by decide⟩ wn rfl (fun _ _ => (rv_nilCheck rfl)) ?_
   refine wg_val (i := 12) (listed' := #[true, true, true, true, true, true, true, true, true, true, true, true, true, false]) (fun _ => True) rfl (by kernel_rfl) (by repeat (first | exact pk_body | refine pk_then ?_ | refine pk_block ?_)) (by kernel_rfl) rfl (by kernel_rfl) (by kernel_rfl) rfl (.inl fun _ _ => trivial) ⟨⟨hS10.hasK hl9, hS10.hasObj (.tail _ (.tail _ (.head _))), hS10.hasObj (.tail _ (.head _))⟩, (fun _ => hS10.hasObj (.tail _ (.tail _ (.tail _ (.head _))))), by decide⟩ wn rfl (fun _ _ => (rv_fieldAddr ff42_1 rfl)) ?_
   refine wg_one (i := 13) (by kernel_rfl) rfl ?_
   have hS11 := SH.front (p := [_, _, _]) hS10
   refine wl_store (cs' := [.slice a1 n1 c1, .slice (some ⟨g10, 0, none⟩) (n + 1) c10]) (v := .slice (some ⟨g10, 0, none⟩) (n + 1) c10) wn tf40 rfl rfl rfl (by simp [Value.cells, Value.oneCell']) hS11 rfl rfl ?_
   intro w13 hS13
   refine wl_nil (qe_held (listed' := #[true, true, true, true, true, true, true, true, true, true, true, true, true, true]) rfl ⟨⟨hS13.hasK hl9, hS13.hasObj (.tail _ (.tail _ (.tail _ (.head _)))), hS13.hasObj (.tail _ (.tail _ (.head _)))⟩, (fun h => nomatch h), by decide⟩ ?_)
   refine wg_done (by kernel_rfl) ?_
   have hS14 := SH.rowNil hS13 64 2
   have hS15 : SH w K MM w13 K9 (obj g6 [sv p2_t.Text, .int .i64 p2_t.At] 74 :: obj g5 [sv p1_field] 9 :: obj g [.slice a1 n1 c1, .slice (some ⟨g10, 0, none⟩) (n + 1) c10] 42 :: segTop 60 (some ⟨g10, 0, none⟩) (n + 1) c10 (lay ++ [ELay.mk p1_field p2_t.Text [] none 0 0]) :: ((lay ++ [ELay.mk p1_field p2_t.Text [] none 0 0])).flatMap (ELay.items 64 3)) := by
    have e1 : (lay ++ [ELay.mk p1_field p2_t.Text [] none 0 0]).flatMap ELay.cells = lay.flatMap ELay.cells ++ [sv p1_field, sv p2_t.Text, .slice none 0 0] := by rw [List.flatMap_append]; rfl
    have e2 : ((lay ++ [ELay.mk p1_field p2_t.Text [] none 0 0])).flatMap (ELay.items 64 3) = (lay).flatMap (ELay.items 64 3) ++ [rowI (.slice none 0 0) [] 64 2] := by rw [List.flatMap_append]; rfl
    unfold segTop
    rw [e1, e2]
    refine hS14.perm ?_
    exact (show List.Perm ((_ :: _ :: _ :: _ :: (lay).flatMap (ELay.items 64 3)) ++ [_]) _ from List.perm_append_singleton _ _).trans (.cons _ (List.Perm.append_right ((lay).flatMap (ELay.items 64 3)) (List.perm_append_comm (l₁ := [_, _]) (l₂ := [_, _]))))
   refine qe_mid' ⟨_, _, _, _, K9, rfl, hS15, hl9, fun x hx => ?_, ?_⟩ ⟨rfl, rfl, rfl, rfl, trivial⟩
   ·rcases List.mem_append.1 hx with hx | hx
    ·exact hl0.1 x hx
    ·rcases List.mem_singleton.1 hx with rfl
     exact ⟨hl1, hl2, by simp⟩
   ·rw [List.map_append, hl0.2]; rfl
  ·rw [hb] at hx2 ⊢
   simp only [cond_false] at hx2 ⊢
   obtain rfl := oi hx2
   refine wc_skip ?_
   exact qe_mid' ⟨a, n, c, lay, K, rfl, hS7, .refl _, hl0⟩ ⟨rfl, rfl, rfl, rfl, trivial⟩
 rintro _ w15 ⟨a2, n2, c2, lay2, K2, rfl, hS20, hl20, hlay2⟩
 generalize hkk : (cond (decide (k < 0)) (p0_s.Entries.length : Int) k) = kk at *
 obtain ⟨hok2, hes⟩ := hlay2
 obtain ⟨el, hz2, hel⟩ := sg_getI_map (hes ▸ hx3 : getI (lay2.map ELay.x) kk = some en)
 obtain ⟨pre, post, hsplit, hpre, hk0⟩ := sg_split hz2
 have hn2 := sg_top_len hS20 (.tail _ (.tail _ (.tail _ (.head _))))
 have hn2e : n2 = es.length := by rw [← hes, List.length_map]; exact hn2
 obtain ⟨gE, rfl⟩ := SH.rowI_at hS20 (.tail _ (.tail _ (.tail _ (.head _)))) hn2 hz2
 obtain ⟨R, hR⟩ : ∃ R, R = ((pre).flatMap (ELay.items 64 3) ++ (post).flatMap (ELay.items 64 3)) := ⟨_, rfl⟩
 have hS21 : SH w K MM w15 K2 (obj g6 [sv p2_t.Text, .int .i64 p2_t.At] 74 :: obj g5 [sv p1_field] 9 :: obj g [.slice a1 n1 c1, .slice (some ⟨gE, 0, none⟩) n2 c2] 42 :: segTop 60 (some ⟨gE, 0, none⟩) n2 c2 (pre ++ el :: post) :: ELay.row 64 el :: (el.posts.map (PLay.item 3) ++ R)) := by
  rw [hR]
  have h7 := hS20
  rw [hsplit] at h7
  exact h7.perm ((List.Perm.append_left [_, _, _] (seg_focus (TE := 60) (TP := 64) (TI := 3))).symm)
 have helok : el.ok := hok2 el (by rw [hsplit]; simp)
 have hnP : el.n = el.posts.length := sg_row_len hS21 (.tail _ (.tail _ (.tail _ (.tail _ (.head _)))))
 have hhead := sg_head_at (pre := pre) (post := post) (e := el) (o := kk.toNat * 3 + 2) (by rw [hpre])
 have hpl : el.posts.length ≤ maxLen := rowI_max hS21 (.tail _ (.tail _ (.tail _ (.tail _ (.head _))))) hnP
 have henp : en.Posts = el.posts.map PLay.x := by rw [← hel]; rfl
 refine qr ?_
 refine vm rfl rfl ?_
 refine wl_val wn rfl (rv_nilCheck rfl) ?_
 refine wl_val wn rfl (rv_fieldAddr ff42_1 rfl) ?_
 refine wl_val wn rfl (rv_loadm1 tf40 rfl (.tail _ (.tail _ (.head _))) hS21 rfl) ?_
 refine vm rfl rfl ?_
 refine wl_val wn rfl (rv_indexI (t := tGEntry) Try.underlying40 tf60 rfl rfl rfl hn2e hx3) ?_
 refine va rfl rfl ?_
 refine nr ?_
 refine vm rfl rfl ?_
 refine wl_val wn rfl (rv_nilCheck rfl) ?_
 refine wl_val wn rfl (rv_fieldAddr ff60_2 rfl) ?_
 refine wl_val wn rfl (rh_loadI1 tf58 rfl rfl hhead rfl (hS21.hasRow (.tail _ (.tail _ (.tail _ (.head _)))))) ?_
 refine wl_val wn rfl (rv_lenRow Try.underlying58 rfl hnP) ?_
 refine wl_val wn rfl (rv_sub rfl rfl) ?_
 refine va rfl rfl ?_
 refine ns ?_
 refine wc_seq ?_
 refine wc_cutg (fun E' w' => E' = [(3, .int .i64 p3_id), (6, .pointer (some ⟨g6, 0, none⟩)), (9, .pointer (some ⟨gE, kk.toNat * tGEntry.size, none⟩)), (10, .int .i64 (w64 ((el.posts.length : Int) - 1))), (62, .bool (needPost en.Posts p3_id))] ∧ w' = w15) ?_ ?_
 ·refine wc_region ?_
  refine vm rfl rfl ?_
  refine wl_val wn rfl (rv_lss rfl rfl) ?_
  refine vm rfl rfl ?_
  rcases List.eq_nil_or_concat el.posts with hnil | ⟨ps0, p0, hcat⟩
  ·have hb : decide (w64 ((el.posts.length : Int) - 1) < 0) = true := by rw [sg_pred hpl, hnil]; rfl
   have hnp : needPost en.Posts p3_id = true := by rw [henp, hnil]; rfl
   rw [hnp]
   refine wl_un (ug rfl rfl hb) rfl ?_
   refine wl_un (ug rfl rfl hb) rfl ?_
   refine wl_un (ug rfl rfl hb) rfl ?_
   refine wl_un (ug rfl rfl hb) rfl ?_
   refine wl_un (ug rfl rfl hb) rfl ?_
   refine wl_un (ug rfl rfl hb) rfl ?_
   refine wl_un (ug rfl rfl hb) rfl ?_
   refine wl_un (ug rfl rfl hb) rfl ?_
   refine wl_un (ug rfl rfl hb) rfl ?_
   refine wl_un (ug rfl rfl hb) rfl ?_
   refine wl_val wn rfl (rv_pick_t (v := .bool true) rfl hb rfl) ?_
   refine wl_nil ?_
   exact qe_mid' ⟨rfl, rfl⟩ ⟨rfl, rfl, rfl, rfl, rfl, trivial⟩
  ·rw [List.concat_eq_append] at hcat
   have hlp : el.posts.length = ps0.length + 1 := by rw [hcat]; simp
   have hw : w64 ((el.posts.length : Int) - 1) = (ps0.length : Int) := by rw [sg_pred hpl, hlp]; omega
   have hb : decide (w64 ((el.posts.length : Int) - 1) < 0) = false := by rw [hw]; exact decide_eq_false (by omega)
   have hnp : needPost en.Posts p3_id = !(p0.doc == p3_id) := by rw [henp, hcat, List.map_append]; simp [needPost, PLay.x]
   rw [hnp]
   have hzp : getI en.Posts (w64 ((el.posts.length : Int) - 1)) = some p0.x := by rw [henp, hcat, List.map_append]; exact sg_last (by rw [← hcat, hw]; simp)
   have hnPe : el.n = en.Posts.length := by rw [henp, List.length_map]; exact hnP
   obtain ⟨gP, hgP⟩ := SH.rowI_at hS21 (.tail _ (.tail _ (.tail _ (.tail _ (.head _))))) hnPe hzp
   have hdoc : (el.posts.flatMap PLay.cells)[(w64 ((el.posts.length : Int) - 1)).toNat * 2 + 0]? = some (.int .i64 p0.doc) := by rw [hcat]; exact sg_post_at (k := 0) (by rw [← hcat, hw]; simp)
   refine wl_val (wg rfl rfl hb) rfl (rv_move rfl) ?_
   refine wl_val (wg rfl rfl hb) rfl (rv_nilCheck rfl) ?_
   refine wl_val (wg rfl rfl hb) rfl (rv_fieldAddr ff60_2 rfl) ?_
   refine wl_val (wg rfl rfl hb) rfl (rh_loadI1 tf58 rfl rfl hhead rfl (hS21.hasRow (.tail _ (.tail _ (.tail _ (.head _)))))) ?_
   refine wl_val (wg rfl rfl hb) rfl (rv_move rfl) ?_
   refine wl_val (wg rfl rfl hb) rfl (rv_indexI (t := tGPost) Try.underlying58 tf64 rfl rfl hgP hnPe hzp) ?_
   refine wl_val (wg rfl rfl hb) rfl (rv_fieldAddr ff64_0 rfl) ?_
   refine wl_val (wg rfl rfl hb) rfl (rh_loadI1 tf3 rfl rfl hdoc hgP (hS21.hasRow (.tail _ (.tail _ (.tail _ (.tail _ (.head _))))))) ?_
   refine wl_val (wg rfl rfl hb) rfl (rv_move rfl) ?_
   refine wl_val (wg rfl rfl hb) rfl (rv_neq rfl rfl) ?_
   refine wl_val wn rfl (rv_pick_f rfl hb rfl) ?_
   refine wl_nil ?_
   exact qe_mid' ⟨rfl, rfl⟩ ⟨rfl, rfl, rfl, rfl, rfl, trivial⟩
 rintro _ _ ⟨rfl, rfl⟩
 refine qe_seq ?_
 refine wc_cutg (fun E' w' => ∃ (el2 : ELay) (ps0 : List PLay) (pl : PLay) (K3 : KMap), E' = [(6, .pointer (some ⟨g6, 0, none⟩)), (9, .pointer (some ⟨gE, kk.toNat * tGEntry.size, none⟩)), (10, .int .i64 (ps0.length : Int))] ∧ SH w K MM w' K3 (obj g6 [sv p2_t.Text, .int .i64 p2_t.At] 74 :: obj g5 [sv p1_field] 9 :: obj g [.slice a1 n1 c1, .slice (some ⟨gE, 0, none⟩) n2 c2] 42 :: segTop 60 (some ⟨gE, 0, none⟩) n2 c2 (pre ++ el2 :: post) :: ELay.row 64 el2 :: (pl.item 3 :: (ps0.map (PLay.item 3) ++ R))) ∧ KLe K K3 ∧ el2.ok ∧ el2.field = el.field ∧ el2.term = el.term ∧ el2.posts = ps0 ++ [pl] ∧ ps = el2.posts.map PLay.x) ?_ ?_
 ·refine wc_cond rfl (fun hb => ?_) (fun hb => ?_)
  ·rw [hb] at hx4
   simp only [cond_true] at hx4
   refine sr ?_
   refine vm rfl rfl ?_
   refine vm rfl rfl ?_
   refine wl_val wn rfl (rv_nilCheck rfl) ?_
   refine wl_val wn rfl (rv_fieldAddr ff60_2 rfl) ?_
   refine wl_val wn rfl (rh_loadI1 tf58 rfl rfl hhead rfl (hS21.hasRow (.tail _ (.tail _ (.tail _ (.head _)))))) ?_
   refine vm rfl rfl ?_
   refine wl_val wn rfl (rv_build (cs := #[.int .i64 p3_id, .slice none 0 0]) sp64 tf64 rfl (by kernel_rfl)) ?_
   refine wl_buildSlice (t := tRaw 2) (n := 1) (pv := [(0, .agg #[.int .i64 p3_id, .slice none 0 0])]) (cs := [.int .i64 p3_id, .slice none 0 0]) (xs := [([.int .i64 p3_id, .slice none 0 0] : List Value)]) wn rfl Try.underlying58 tf64 rfl rfl rfl (by kernel_rfl) rfl rfl (lit_cons (t := tRaw 2) (u := .agg #[.int .i64 p3_id, .slice none 0 0]) (z := ([.int .i64 p3_id, .slice none 0 0] : List Value)) ⟨rfl, rfl, by simp [Value.oneCell']⟩ lit_nil) hS21 ?_
   intro a22 w22 K22 hl22 hs22 hS22'
   obtain ⟨b22, o22, rfl⟩ := raw_addr hs22
   have hk22 := raw_lit hs22
   have hS22 := hS22'.drop
   unfold catL at hx4
   split at hx4
   case isFalse => cases hx4
   rename_i hbd
   cases hx4
   have hbd2 : (el.n + 1) * 32 ≤ 140737488355328 := by rw [henp] at hbd; simp at hbd; rw [hnP]; exact hbd
   have hS23 := SH.front (p := [_, _, _, _]) hS22
   refine wl_appendI wn rfl Try.underlying58 tf64 rfl rfl rfl (by decide) rfl hk22 (by simp [Value.oneCell']) (by rw [sg_cells2, hnP]) (by omega) hbd2 hS23 ?_
   intro g24 c24 w24 hS24
   refine wl_val wn rfl (rv_nilCheck rfl) ?_
   refine wl_val wn rfl (rv_fieldAddr ff60_2 rfl) ?_
   have hS25 := SH.front (p := [_, _, _, _]) hS24
   refine wl_storeC wn tf58 rfl rfl rfl hS25 (by have := (List.getElem?_eq_some_iff.1 hhead).1; exact this) ?_
   intro w26 hS26
   refine nq ?_
   refine wc_region ?_
   refine vm rfl rfl ?_
   refine wl_val wn rfl (rv_add rfl rfl) ?_
   refine wl_val wn rfl (rv_as rfl (congrArg (Value.int .i64) (sg_back hpl))) ?_
   refine wl_nil ?_
   obtain ⟨el2, hel2⟩ : ∃ el2 : ELay, el2 = ⟨el.field, el.term, el.posts ++ [⟨p3_id, [], none, 0, 0⟩], some ⟨g24, 0, none⟩, el.n + 1, c24⟩ := ⟨_, rfl⟩
   have hset := sg_head_set (pre := pre) (post := post) (e := el) (e' := el2) (o := kk.toNat * 3 + 2) (by rw [hpre]) (by rw [hel2]) (by rw [hel2])
   have hS27 : SH w K MM w26 K22 (rowI (.slice (some ⟨gE, 0, none⟩) n2 c2) ((pre ++ el2 :: post).flatMap ELay.cells) 60 3 :: ELay.row 64 el2 :: obj g6 [sv p2_t.Text, .int .i64 p2_t.At] 74 :: obj g5 [sv p1_field] 9 :: obj g [.slice a1 n1 c1, .slice (some ⟨gE, 0, none⟩) n2 c2] 42 :: (el.posts.map (PLay.item 3) ++ R)) := by
    have e1 : el2.posts.flatMap PLay.cells = el.posts.flatMap PLay.cells ++ [.int .i64 p3_id, .slice none 0 0] := by rw [hel2, List.flatMap_append]; rfl
    have e2 : el2.a = some ⟨g24, 0, none⟩ := by rw [hel2]
    have e3 : el2.n = el.n + 1 := by rw [hel2]
    have e4 : el2.c = c24 := by rw [hel2]
    rw [← hset]
    unfold ELay.row
    rw [e1, e2, e3, e4]
    exact hS26
   have hS28 := SH.rowNil hS27 3 1
   refine qe_mid' ⟨el2, el.posts, ⟨p3_id, [], none, 0, 0⟩, K22, rfl, hS28.perm ?_, hl20.trans hl22, ?_, by rw [hel2], by rw [hel2], by rw [hel2], ?_⟩ ⟨rfl, rfl, rfl, trivial⟩
   ·exact (List.Perm.append_left [_, _, _, _, _] (List.Perm.refl _)).trans ((List.perm_middle (l₁ := [_, _, _, _, _])).trans (.cons _ (List.Perm.append_right _ (List.perm_append_comm (l₁ := [_, _, _]) (l₂ := [_, _])))))
   ·rw [hel2]
    refine ⟨helok.1, helok.2.1, fun q hq => ?_⟩
    rcases List.mem_append.1 hq with hq | hq
    ·exact helok.2.2 q hq
    ·rcases List.mem_singleton.1 hq with rfl
     exact ⟨hr3, by simp⟩
   ·rw [hel2, henp, List.map_append]; rfl
  ·rw [hb] at hx4
   simp only [cond_false] at hx4
   obtain rfl := oi hx4
   refine wc_skip ?_
   rcases List.eq_nil_or_concat el.posts with hnil | ⟨ps0, p0, hcat⟩
   ·rw [henp, hnil] at hb; cases hb
   rw [List.concat_eq_append] at hcat
   have hlp : el.posts.length = ps0.length + 1 := by rw [hcat]; simp
   have hw : w64 ((el.posts.length : Int) - 1) = (ps0.length : Int) := by rw [sg_pred hpl, hlp]; omega
   rw [hw]
   refine qe_mid' ⟨el, ps0, p0, K2, rfl, ?_, hl20, helok, rfl, rfl, hcat, henp⟩ ⟨rfl, rfl, rfl, trivial⟩
   have h7 := hS21
   rw [hcat] at h7
   exact h7.perm (List.Perm.append_left [_, _, _, _, _] (post_focus (TI := 3)).symm)
 rintro _ w30 ⟨el2, ps0, pl, K3, rfl, hS30, hl30, hel2ok, hf2, ht2, hcat2, hps⟩
 refine qe_seq ?_
 have hpx : p = pl.x := by rw [hps, hcat2, List.map_append] at hx5; simp at hx5; exact hx5.symm
 have hn30 : el2.n = el2.posts.length := sg_row_len hS30 (.tail _ (.tail _ (.tail _ (.tail _ (.head _)))))
 have hz30 : getI el2.posts (ps0.length : Int) = some pl := by rw [hcat2]; exact sg_last rfl
 obtain ⟨gP, hgP⟩ := SH.rowI_at hS30 (.tail _ (.tail _ (.tail _ (.tail _ (.head _))))) hn30 hz30
 have hpn : pl.n = pl.at_.length := sg_item_len hS30 (.tail _ (.tail _ (.tail _ (.tail _ (.tail _ (.head _))))))
 have hhead2 := sg_head_at (pre := pre) (post := post) (e := el2) (o := kk.toNat * 3 + 2) (by rw [hpre])
 have hz31 : getI (el2.posts.map PLay.x) (ps0.length : Int) = some pl.x := by rw [hcat2, List.map_append]; exact sg_last (by simp)
 have hn31 : el2.n = (el2.posts.map PLay.x).length := by rw [List.length_map]; exact hn30
 have hat : (el2.posts.flatMap PLay.cells)[(ps0.length : Int).toNat * 2 + 1]? = some (.slice pl.a pl.n pl.c) := by rw [hcat2]; exact sg_post_at (k := 1) (by simp)
 refine wc_held (fun w' => Holds K3 w' ∧ HasRow (some ⟨gE, 0, none⟩) ((pre ++ el2 :: post).flatMap ELay.cells) w' ∧ HasObj g6 [sv p2_t.Text, .int .i64 p2_t.At] w') (fun w' => HasRow el2.a (el2.posts.flatMap PLay.cells) w') 19 [(12, 16), (16, 19)] mixed ?_
 have hS31 := SH.drew hS30
 refine wg_val (i := 0) (listed' := #[true, false, false, false, false, false, false, false, false, false, false, false, false, false, false, false, false, false, false, false]) (fun _ => True) rfl (by kernel_rfl) (by repeat (first | exact pk_body | refine pk_then ?_ | refine pk_block ?_)) (by kernel_rfl) rfl (by kernel_rfl) (by kernel_rfl) rfl (.inl fun _ _ => trivial) ⟨⟨hS31.hasK (KLe.refl _), hS31.hasRow (.tail _ (.tail _ (.tail _ (.head _)))), hS31.hasObj (.head _)⟩, (fun _ => hS31.hasRow (.tail _ (.tail _ (.tail _ (.tail _ (.head _)))))), by decide⟩ wn rfl (fun _ _ => (rv_move rfl)) ?_
 refine wg_val (i := 1) (listed' := #[true, true, false, false, false, false, false, false, false, false, false, false, false, false, false, false, false, false, false, false]) (fun _ => True) rfl (by kernel_rfl) (by repeat (first | exact pk_body | refine pk_then ?_ | refine pk_block ?_)) (by kernel_rfl) rfl (by kernel_rfl) (by kernel_rfl) rfl (.inl fun _ _ => trivial) ⟨⟨hS31.hasK (KLe.refl _), hS31.hasRow (.tail _ (.tail _ (.tail _ (.head _)))), hS31.hasObj (.head _)⟩, (fun _ => hS31.hasRow (.tail _ (.tail _ (.tail _ (.tail _ (.head _)))))), by decide⟩ wn rfl (fun _ _ => (rv_nilCheck rfl)) ?_
 refine wg_val (i := 2) (listed' := #[true, true, true, false, false, false, false, false, false, false, false, false, false, false, false, false, false, false, false, false]) (fun _ => True) rfl (by kernel_rfl) (by repeat (first | exact pk_body | refine pk_then ?_ | refine pk_block ?_)) (by kernel_rfl) rfl (by kernel_rfl) (by kernel_rfl) rfl (.inl fun _ _ => trivial) ⟨⟨hS31.hasK (KLe.refl _), hS31.hasRow (.tail _ (.tail _ (.tail _ (.head _)))), hS31.hasObj (.head _)⟩, (fun _ => hS31.hasRow (.tail _ (.tail _ (.tail _ (.tail _ (.head _)))))), by decide⟩ wn rfl (fun _ _ => (rv_fieldAddr ff60_2 rfl)) ?_
 refine wg_val (i := 3) (listed' := #[true, true, true, true, false, false, false, false, false, false, false, false, false, false, false, false, false, false, false, false]) (HasRow (some ⟨gE, 0, none⟩) ((pre ++ el2 :: post).flatMap ELay.cells)) rfl (by kernel_rfl) (by repeat (first | exact pk_body | refine pk_then ?_ | refine pk_block ?_)) (by kernel_rfl) rfl (by kernel_rfl) (by kernel_rfl) rfl (.inl fun _ h => h.2.1) ⟨⟨hS31.hasK (KLe.refl _), hS31.hasRow (.tail _ (.tail _ (.tail _ (.head _)))), hS31.hasObj (.head _)⟩, (fun _ => hS31.hasRow (.tail _ (.tail _ (.tail _ (.tail _ (.head _)))))), by decide⟩ wn rfl (fun _ h => rh_loadI1 tf58 rfl rfl hhead2 rfl h) ?_
 refine wg_val (i := 4) (listed' := #[true, true, true, true, true, false, false, false, false, false, false, false, false, false, false, false, false, false, false, false]) (fun _ => True) rfl (by kernel_rfl) (by repeat (first | exact pk_body | refine pk_then ?_ | refine pk_block ?_)) (by kernel_rfl) rfl (by kernel_rfl) (by kernel_rfl) rfl (.inl fun _ _ => trivial) ⟨⟨hS31.hasK (KLe.refl _), hS31.hasRow (.tail _ (.tail _ (.tail _ (.head _)))), hS31.hasObj (.head _)⟩, (fun _ => hS31.hasRow (.tail _ (.tail _ (.tail _ (.tail _ (.head _)))))), by decide⟩ wn rfl (fun _ _ => (rv_move rfl)) ?_
 refine wg_val (i := 5) (listed' := #[true, true, true, true, true, true, false, false, false, false, false, false, false, false, false, false, false, false, false, false]) (fun _ => True) rfl (by kernel_rfl) (by repeat (first | exact pk_body | refine pk_then ?_ | refine pk_block ?_)) (by kernel_rfl) rfl (by kernel_rfl) (by kernel_rfl) rfl (.inl fun _ _ => trivial) ⟨⟨hS31.hasK (KLe.refl _), hS31.hasRow (.tail _ (.tail _ (.tail _ (.head _)))), hS31.hasObj (.head _)⟩, (fun _ => hS31.hasRow (.tail _ (.tail _ (.tail _ (.tail _ (.head _)))))), by decide⟩ wn rfl (fun _ _ => (rv_move rfl)) ?_
 refine wg_val (i := 6) (listed' := #[true, true, true, true, true, true, true, false, false, false, false, false, false, false, false, false, false, false, false, false]) (fun _ => True) rfl (by kernel_rfl) (by repeat (first | exact pk_body | refine pk_then ?_ | refine pk_block ?_)) (by kernel_rfl) rfl (by kernel_rfl) (by kernel_rfl) rfl (.inl fun _ _ => trivial) ⟨⟨hS31.hasK (KLe.refl _), hS31.hasRow (.tail _ (.tail _ (.tail _ (.head _)))), hS31.hasObj (.head _)⟩, (fun _ => hS31.hasRow (.tail _ (.tail _ (.tail _ (.tail _ (.head _)))))), by decide⟩ wn rfl (fun _ _ => (rv_nilCheck rfl)) ?_
 refine wg_val (i := 7) (listed' := #[true, true, true, true, true, true, true, true, false, false, false, false, false, false, false, false, false, false, false, false]) (fun _ => True) rfl (by kernel_rfl) (by repeat (first | exact pk_body | refine pk_then ?_ | refine pk_block ?_)) (by kernel_rfl) rfl (by kernel_rfl) (by kernel_rfl) rfl (.inl fun _ _ => trivial) ⟨⟨hS31.hasK (KLe.refl _), hS31.hasRow (.tail _ (.tail _ (.tail _ (.head _)))), hS31.hasObj (.head _)⟩, (fun _ => hS31.hasRow (.tail _ (.tail _ (.tail _ (.tail _ (.head _)))))), by decide⟩ wn rfl (fun _ _ => (rv_fieldAddr ff60_2 rfl)) ?_
 refine wg_val (i := 8) (listed' := #[true, true, true, true, true, true, true, true, true, false, false, false, false, false, false, false, false, false, false, false]) (HasRow (some ⟨gE, 0, none⟩) ((pre ++ el2 :: post).flatMap ELay.cells)) rfl (by kernel_rfl) (by repeat (first | exact pk_body | refine pk_then ?_ | refine pk_block ?_)) (by kernel_rfl) rfl (by kernel_rfl) (by kernel_rfl) rfl (.inl fun _ h => h.2.1) ⟨⟨hS31.hasK (KLe.refl _), hS31.hasRow (.tail _ (.tail _ (.tail _ (.head _)))), hS31.hasObj (.head _)⟩, (fun _ => hS31.hasRow (.tail _ (.tail _ (.tail _ (.tail _ (.head _)))))), by decide⟩ wn rfl (fun _ h => rh_loadI1 tf58 rfl rfl hhead2 rfl h) ?_
 refine wg_val (i := 9) (listed' := #[true, true, true, true, true, true, true, true, true, true, false, false, false, false, false, false, false, false, false, false]) (fun _ => True) rfl (by kernel_rfl) (by repeat (first | exact pk_body | refine pk_then ?_ | refine pk_block ?_)) (by kernel_rfl) rfl (by kernel_rfl) (by kernel_rfl) rfl (.inl fun _ _ => trivial) ⟨⟨hS31.hasK (KLe.refl _), hS31.hasRow (.tail _ (.tail _ (.tail _ (.head _)))), hS31.hasObj (.head _)⟩, (fun _ => hS31.hasRow (.tail _ (.tail _ (.tail _ (.tail _ (.head _)))))), by decide⟩ wn rfl (fun _ _ => (rv_move rfl)) ?_
 refine wg_val (i := 10) (listed' := #[true, true, true, true, true, true, true, true, true, true, true, false, false, false, false, false, false, false, false, false]) (fun _ => True) rfl (by kernel_rfl) (by repeat (first | exact pk_body | refine pk_then ?_ | refine pk_block ?_)) (by kernel_rfl) rfl (by kernel_rfl) (by kernel_rfl) rfl (.inl fun _ _ => trivial) ⟨⟨hS31.hasK (KLe.refl _), hS31.hasRow (.tail _ (.tail _ (.tail _ (.head _)))), hS31.hasObj (.head _)⟩, (fun _ => hS31.hasRow (.tail _ (.tail _ (.tail _ (.tail _ (.head _)))))), by decide⟩ wn rfl (fun _ _ => (rv_indexI (t := tGPost) Try.underlying58 tf64 rfl rfl hgP hn31 hz31)) ?_
 refine wg_val (i := 11) (listed' := #[true, true, true, true, true, true, true, true, true, true, true, true, false, false, false, false, false, false, false, false]) (fun _ => True) rfl (by kernel_rfl) (by repeat (first | exact pk_body | refine pk_then ?_ | refine pk_block ?_)) (by kernel_rfl) rfl (by kernel_rfl) (by kernel_rfl) rfl (.inl fun _ _ => trivial) ⟨⟨hS31.hasK (KLe.refl _), hS31.hasRow (.tail _ (.tail _ (.tail _ (.head _)))), hS31.hasObj (.head _)⟩, (fun _ => hS31.hasRow (.tail _ (.tail _ (.tail _ (.tail _ (.head _)))))), by decide⟩ wn rfl (fun _ _ => (rv_fieldAddr ff64_1 rfl)) ?_
 refine wg_val (i := 12) (listed' := #[true, true, true, true, true, true, true, true, true, true, true, true, true, false, false, false, false, false, false, false]) (HasRow el2.a (el2.posts.flatMap PLay.cells)) rfl (by kernel_rfl) (by repeat (first | exact pk_body | refine pk_then ?_ | refine pk_block ?_)) (by kernel_rfl) rfl (by kernel_rfl) (by kernel_rfl) rfl (.inr ⟨rfl, fun _ _ h => h⟩) ⟨⟨hS31.hasK (KLe.refl _), hS31.hasRow (.tail _ (.tail _ (.tail _ (.head _)))), hS31.hasObj (.head _)⟩, (fun _ => hS31.hasRow (.tail _ (.tail _ (.tail _ (.tail _ (.head _)))))), by decide⟩ wn rfl (fun _ h => rh_loadI1 tf24 rfl rfl hat hgP h) ?_
 refine wg_val (i := 13) (listed' := #[true, true, true, true, true, true, true, true, true, true, true, true, true, true, false, false, false, false, false, false]) (fun _ => True) rfl (by kernel_rfl) (by repeat (first | exact pk_body | refine pk_then ?_ | refine pk_block ?_)) (by kernel_rfl) rfl (by kernel_rfl) (by kernel_rfl) rfl (.inl fun _ _ => trivial) ⟨⟨hS31.hasK (KLe.refl _), hS31.hasRow (.tail _ (.tail _ (.tail _ (.head _)))), hS31.hasObj (.head _)⟩, (fun _ => hS31.hasRow (.tail _ (.tail _ (.tail _ (.tail _ (.head _)))))), by decide⟩ wn rfl (fun _ _ => (rv_fieldAddr ff74_1 rfl)) ?_
 refine wg_val (i := 14) (listed' := #[true, true, true, true, true, true, true, true, true, true, true, true, true, true, true, false, false, false, false, false]) (HasObj g6 [sv p2_t.Text, .int .i64 p2_t.At]) rfl (by kernel_rfl) (by repeat (first | exact pk_body | refine pk_then ?_ | refine pk_block ?_)) (by kernel_rfl) rfl (by kernel_rfl) (by kernel_rfl) rfl (.inl fun _ h => h.2.2) ⟨⟨hS31.hasK (KLe.refl _), hS31.hasRow (.tail _ (.tail _ (.tail _ (.head _)))), hS31.hasObj (.head _)⟩, (fun _ => hS31.hasRow (.tail _ (.tail _ (.tail _ (.tail _ (.head _)))))), by decide⟩ wn rfl (fun _ h => rh_loadm1 tf3 rfl rfl h) ?_
 refine wg_one (i := 15) (by kernel_rfl) rfl ?_
 refine wl_buildSlice (t := tInt) (n := 1) (pv := [(0, .int .i64 p2_t.At)]) (cs := [.int .i64 p2_t.At]) (xs := [p2_t.At]) wn rfl Try.underlying24 tf3 rfl rfl rfl (by kernel_rfl) rfl rfl (lit_cons (u := .int .i64 p2_t.At) (z := p2_t.At) ⟨rfl, hr2⟩ lit_nil) hS31 ?_
 intro a35 w35 K35 hl35 hs35 hS35'
 obtain ⟨b35, o35, rfl⟩ := sg_addr hs35
 have hk35 := int_lit hs35
 have hS35 := hS35'.drop
 refine wl_nil (qe_held (listed' := #[true, true, true, true, true, true, true, true, true, true, true, true, true, true, true, true, false, false, false, false]) rfl ⟨⟨hS35.hasK hl35, hS35.hasRow (.tail _ (.tail _ (.tail _ (.head _)))), hS35.hasObj (.head _)⟩, (fun _ => hS35.hasRow (.tail _ (.tail _ (.tail _ (.tail _ (.head _)))))), by decide⟩ ?_)
 refine wg_one (i := 16) (by kernel_rfl) rfl ?_
 unfold catL at hx6
 split at hx6
 case isFalse => cases hx6
 rename_i hbd
 cases hx6
 have hbd2 : (pl.n + 1) * 8 ≤ 140737488355328 := by rw [hpx] at hbd; simp [PLay.x] at hbd; rw [hpn]; exact hbd
 have hS36 := SH.front (p := [_, _, _, _, _]) hS35
 refine wl_appendI wn rfl Try.underlying24 tf3 rfl rfl rfl (by decide) rfl hk35 (by simp [Value.oneCell']) (by rw [List.length_map, hpn, Nat.mul_one]) (by omega) hbd2 hS36 ?_
 intro g37 c37 w37 hS37
 refine wl_nil (qe_held (listed' := #[true, true, true, true, true, true, true, true, true, true, true, true, true, true, true, true, true, false, false, false]) rfl ⟨⟨hS37.hasK hl35, hS37.hasRow (.tail _ (.tail _ (.tail _ (.tail _ (.head _))))), hS37.hasObj (.tail _ (.head _))⟩, (fun _ => hS37.hasRow (.tail _ (.tail _ (.tail _ (.tail _ (.tail _ (.head _))))))), by decide⟩ ?_)
 refine wg_val (i := 17) (listed' := #[true, true, true, true, true, true, true, true, true, true, true, true, true, true, true, true, true, true, false, false]) (fun _ => True) rfl (by kernel_rfl) (by repeat (first | exact pk_body | refine pk_then ?_ | refine pk_block ?_)) (by kernel_rfl) rfl (by kernel_rfl) (by kernel_rfl) rfl (.inl fun _ _ => trivial) ⟨⟨hS37.hasK hl35, hS37.hasRow (.tail _ (.tail _ (.tail _ (.tail _ (.head _))))), hS37.hasObj (.tail _ (.head _))⟩, (fun _ => hS37.hasRow (.tail _ (.tail _ (.tail _ (.tail _ (.tail _ (.head _))))))), by decide⟩ wn rfl (fun _ _ => (rv_indexI (t := tGPost) Try.underlying58 tf64 rfl rfl hgP hn31 hz31)) ?_
 refine wg_val (i := 18) (listed' := #[true, true, true, true, true, true, true, true, true, true, true, true, true, true, true, true, true, true, true, false]) (fun _ => True) rfl (by kernel_rfl) (by repeat (first | exact pk_body | refine pk_then ?_ | refine pk_block ?_)) (by kernel_rfl) rfl (by kernel_rfl) (by kernel_rfl) rfl (.inl fun _ _ => trivial) ⟨⟨hS37.hasK hl35, hS37.hasRow (.tail _ (.tail _ (.tail _ (.tail _ (.head _))))), hS37.hasObj (.tail _ (.head _))⟩, (fun _ => hS37.hasRow (.tail _ (.tail _ (.tail _ (.tail _ (.tail _ (.head _))))))), by decide⟩ wn rfl (fun _ _ => (rv_fieldAddr ff64_1 rfl)) ?_
 refine wg_one (i := 19) (by kernel_rfl) rfl ?_
 obtain ⟨fl2, tm2, po2, a2', m2', c2'⟩ := el2
 simp only at hgP hat hcat2 hf2 ht2 hn30
 subst hgP
 have hS38 := SH.front (p := [_, _, _, _, _]) hS37
 refine wl_storeC wn tf24 rfl rfl rfl hS38 (by have := (List.getElem?_eq_some_iff.1 hat).1; exact this) ?_
 intro w39 hS39
 refine wl_nil (qe_held (listed' := #[true, true, true, true, true, true, true, true, true, true, true, true, true, true, true, true, true, true, true, true]) rfl ⟨⟨hS39.hasK hl35, hS39.hasRow (.tail _ (.tail _ (.tail _ (.tail _ (.tail _ (.head _)))))), hS39.hasObj (.tail _ (.tail _ (.head _)))⟩, (fun h => nomatch h), by decide⟩ ?_)
 refine wg_done (by kernel_rfl) ?_
 subst hR
 subst hcat2
 obtain ⟨pl2, hpl2⟩ : ∃ pl2 : PLay, pl2 = ⟨pl.doc, pl.at_ ++ [p2_t.At], some ⟨g37, 0, none⟩, pl.n + 1, c37⟩ := ⟨_, rfl⟩
 obtain ⟨el3, hel3⟩ : ∃ el3 : ELay, el3 = ⟨fl2, tm2, ps0 ++ [pl2], some ⟨gP, 0, none⟩, m2', c2'⟩ := ⟨_, rfl⟩
 have hS40 : SH w K MM w39 K35 (ELay.row 64 el3 :: pl2.item 3 :: obj g6 [sv p2_t.Text, .int .i64 p2_t.At] 74 :: obj g5 [sv p1_field] 9 :: obj g [.slice a1 n1 c1, .slice (some ⟨gE, 0, none⟩) n2 c2] 42 :: segTop 60 (some ⟨gE, 0, none⟩) n2 c2 (pre ++ el3 :: post) :: (ps0.map (PLay.item 3) ++ ((pre).flatMap (ELay.items 64 3) ++ (post).flatMap (ELay.items 64 3)))) := by
  have e1 := sg_post_set (ps := ps0) (p := pl) (p' := pl2) (o := (ps0.length : Int).toNat * 2 + 1) (by simp) (by rw [hpl2])
  have e2 : pl2.a = some ⟨g37, 0, none⟩ := by rw [hpl2]
  have e3 : pl2.n = pl.n + 1 := by rw [hpl2]
  have e4 : pl2.c = c37 := by rw [hpl2]
  have e5 : pl2.at_.map intC = pl.at_.map intC ++ [.int .i64 p2_t.At] := by rw [hpl2, List.map_append]; rfl
  have e6 : (pre ++ el3 :: post).flatMap ELay.cells = (pre ++ ⟨fl2, tm2, ps0 ++ [pl], some ⟨gP, 0, none⟩, m2', c2'⟩ :: post).flatMap ELay.cells := by rw [hel3, List.flatMap_append, List.flatMap_append, List.flatMap_cons, List.flatMap_cons]; rfl
  have e7 : ELay.row 64 el3 = rowI (.slice (some ⟨gP, 0, none⟩) m2' c2') ((ps0 ++ [pl2]).flatMap PLay.cells) 64 2 := by rw [hel3]; rfl
  rw [e7, ← e1]
  unfold segTop
  rw [e6]
  show SH w K MM w39 K35 (_ :: rowI (.slice pl2.a pl2.n pl2.c) (pl2.at_.map intC) 3 1 :: _)
  rw [e2, e3, e4, e5]
  exact hS39
 have hS41 := hS40.sublist (.cons_cons _ (.cons_cons _ (.cons _ (.cons _ (List.Sublist.refl _)))))
 have hpo3 : el3.posts = ps0 ++ [pl2] := by rw [hel3]
 have hS42 : SH w K MM w39 K35 (segItems 60 64 3 (some ⟨gE, 0, none⟩) n2 c2 (pre ++ el3 :: post) ++ [obj g [.slice a1 n1 c1, .slice (some ⟨gE, 0, none⟩) n2 c2] 42]) := by
  refine hS41.perm ((List.perm_append_singleton _ _).trans ((List.Perm.cons _ (seg_focus (TE := 60) (TP := 64) (TI := 3))).trans ?_))
  rw [hpo3]
  refine (List.Perm.append_left [_, _, _] (post_focus (TI := 3))).trans ?_
  exact List.Perm.append_right _ (List.perm_append_comm (l₁ := [_, _]) (l₂ := [_, _]))
 have hS43 := hS42.packUp.perm (List.Perm.swap _ _ _)
 refine qe_ret_normal ?_
 refine qe_ret (vs := []) Try.results63 trivial ⟨a1, n1, c1, some ⟨gE, 0, none⟩, n2, c2, pre ++ el3 :: post, K35, rfl, hS43, hs1.mono (hl30.trans hl35), ?_, ?_⟩
 ·intro x hx
  rw [hsplit] at hok2
  rcases List.mem_append.1 hx with hx | hx
  ·exact hok2 x (List.mem_append_left _ hx)
  rcases List.mem_cons.1 hx with rfl | hx
  ·rw [hel3, hpl2]
   refine ⟨hel2ok.1, hel2ok.2.1, fun q hq => ?_⟩
   rcases List.mem_append.1 hq with hq | hq
   ·exact hel2ok.2.2 q (List.mem_append_left _ hq)
   ·rcases List.mem_singleton.1 hq with rfl
    have h8 := hel2ok.2.2 pl (List.mem_append_right _ (List.mem_singleton.2 rfl))
    refine ⟨h8.1, fun z hz => ?_⟩
    rcases List.mem_append.1 hz with hz | hz
    ·exact h8.2 z hz
    ·rcases List.mem_singleton.1 hz with rfl
     exact hr2
  ·exact hok2 x (List.mem_append_right _ (List.mem_cons_of_mem _ hx))
 ·show _ = es.set kk.toNat _
  rw [← hes, hsplit, List.map_append, List.map_cons, List.map_append, List.map_cons, List.set_append_right _ _ (by rw [List.length_map, hpre]; exact Nat.le_refl _), List.length_map, hpre, Nat.sub_self, List.set_cons_zero]
  have e1 : el3.x = GEntry.mk en.Field en.Term (ps.dropLast ++ [GPost.mk p.Doc (p.At ++ [p2_t.At])]) := by
   rw [hel3, hps, hpx, hpl2, ← hel]
   simp [ELay.x, PLay.x, hf2, ht2]
  rw [e1]

theorem ok_cmp_Or_int (F : Nat) {w : World} {K : KMap} {a1 : Option Addr} {n2 c3 : Nat} {p0_vals : List Int} {r : Int} (hS : SH w K [] w K []) (hs4 : SliceAt tInt K a1 n2 c3 p0_vals) (hm : M.cmp_Or_int F p0_vals = some r) :
  Calls Try.prog 42 #[.slice a1 n2 c3] w fun e w' => ∃ (K' : KMap), e = .returned (.int .i64 r) ∧ SH w K [] w' K' [] ∧ rng64 r := by
 rw [M.cmp_Or_int] at hm
 refine calls_in Try.func42 rfl Try.ntmps42 rfl ?_
 refine sr ?_
 refine wl_val wn rfl (rv_assign (v := .int .i64 0) rfl) ?_
 refine nr ?_
 refine wl_val wn rfl (rv_assign (v := .int .i64 0) rfl) ?_
 refine nsr ?_
 refine vm rfl rfl ?_
 refine wl_val wn rfl (rv_len (t := tInt) Try.underlying24 rfl hs4) ?_
 refine wl_val wn rfl (rv_move (v := .int .i64 0) rfl) ?_
 refine nq ?_
 obtain ⟨o5, h6, h7⟩ := ob hm
 refine wc_cutg (fun E' w' => ∃ (s8 : Unit) (K9 : KMap), o5 = .inl s8 ∧ E' = [(3, .int .i64 0)] ∧ SH w K [] w' K9 [] ∧ KLe K K9) ?_ ?_
 ·refine wc_block ?_
  obtain ⟨r14, h15, h16⟩ := ob h6
  refine wc_for' (fun (i17 : Nat) (s13 : Unit) E' w' => ∃ (K18 : KMap), E' = [(3, .int .i64 0), (6, .slice a1 n2 c3), (7, .int .i64 (p0_vals.length : Int)), (8, .int .i64 ((i17 : Nat) : Int))] ∧ SH w K [] w' K18 [] ∧ KLe K K18) h15 ⟨K, rfl, hS, (KLe.refl _)⟩ ⟨rfl, rfl, rfl, rfl, trivial⟩ ?_ ?_
  ·rintro i17 s13 _ w20 r22 hi23 h24 hx25 ⟨K18, rfl, hS21, hl19⟩
   refine sr ?_
   refine wl_val wn rfl (rv_lss rfl rfl) ?_
   refine ns ?_
   refine wc_cond_t rfl (decide_eq_true (by omega)) (wc_skip (qe_seq (wc_seq ?_)))
   refine wc_block ?_
   refine sr ?_
   obtain ⟨x26, hx27, h28⟩ := ob h24
   refine wl_indexAddr (t := tInt) wn rfl Try.underlying24 tf3 rfl rfl (SliceAt.mono hl19 hs4) hx27 ?_
   intro b29 o30 u31 hu32 ha33
   obtain ⟨rfl, hr34⟩ := hu32
   have ha35 : AtK _ b29 o30 [.int .i64 x26] := ha33
   refine wl_val wn rfl (rv_load1 tf3 rfl hS21 (ha35 0 _ rfl)) ?_
   refine va rfl rfl ?_
   refine nr ?_
   refine vm rfl rfl ?_
   refine vm rfl rfl ?_
   refine wl_val wn rfl (rv_neq rfl rfl) ?_
   refine nq ?_
   refine wc_cond rfl (fun hb36 => ?_) (fun hb36 => ?_)
   ·have h37 := cond_t hb36 h28
    refine sr ?_
    refine vm rfl rfl ?_
    refine va rfl rfl ?_
    refine nq ?_
    refine wc_ret ?_
    refine qe_block_ret ?_
    refine qe_then_ret ?_
    refine qe_then_ret ?_
    obtain rfl := oi h37
    have e38 := hx25 _ rfl
    subst e38
    refine qe_block_ret ?_
    refine qe_then_ret ?_
    obtain rfl := oi h16
    refine qe_then_ret ?_
    obtain rfl := oi h7
    exact qe_ret (vs := [_]) Try.results42 ⟨rfl, trivial⟩ ⟨K18, rfl, hS21, hr34⟩
   ·have h37 := cond_f hb36 h28
    refine wc_skip ?_
    refine qe_block ?_
    refine qg ?_
    refine wl_val wn rfl (rv_add_to rfl rfl (w64_succ hi23 (SliceAt.max hs4))) ?_
    refine vm rfl rfl ?_
    refine wl_nil ?_
    obtain rfl := oi h37
    exact qe_mid' ⟨_, rfl, K18, rfl, hS21, hl19⟩ ⟨rfl, rfl, rfl, rfl, trivial⟩
  ·rintro s13 _ w20 hr39 ⟨K18, rfl, hS21, hl19⟩
   subst hr39
   refine sr ?_
   refine wl_val wn rfl (rv_lss rfl rfl) ?_
   refine ns ?_
   refine wc_cond_f rfl (decide_eq_false (by omega)) ?_
   refine wc_exit ?_
   refine qe_then_exit ?_
   refine qe_then_exit ?_
   refine qe_block_eq ?_
   obtain rfl := oi h16
   exact qe_mid' ⟨_, K18, rfl, rfl, hS21, hl19⟩ ⟨rfl, trivial⟩
 ·rintro _ w11 ⟨s8, K9, rfl, rfl, hS12, hl10⟩
  refine qr ?_
  refine vm rfl rfl ?_
  refine va rfl rfl ?_
  refine nq ?_
  refine wc_ret ?_
  obtain rfl := oi h7
  exact qe_ret (vs := [_]) Try.results42 ⟨rfl, trivial⟩ ⟨K9, rfl, hS12, (by decide : rng64 0)⟩

theorem ok_cmp_isNaN_string (F : Nat) {w : World} {K : KMap} {p0_x : Str} {r : Bool} (hS : SH w K [] w K []) (hl1 : p0_x.length ≤ maxLen) (hm : M.cmp_isNaN_string F p0_x = some r) :
  Calls Try.prog 101 #[sv p0_x] w fun e w' => ∃ (K' : KMap), e = .returned (.bool r) ∧ SH w K [] w' K' [] := by
 rw [M.cmp_isNaN_string] at hm
 refine calls_in Try.func101 rfl Try.ntmps101 rfl ?_
 refine sr ?_
 refine wl_val wn rfl (rv_assign (v := .bool false) rfl) ?_
 refine nr ?_
 refine vm rfl rfl ?_
 refine vm rfl rfl ?_
 refine wl_val wn rfl (rv_sneq rfl rfl) ?_
 refine va rfl rfl ?_
 refine nq ?_
 refine wc_ret ?_
 obtain rfl := oi hm
 exact qe_ret (vs := [_]) Try.results101 ⟨rfl, trivial⟩ ⟨K, rfl, hS⟩

theorem ok_cmp_Compare_string (F : Nat) {w : World} {K : KMap} {p0_x : Str} {p1_y : Str} {r : Int} (hS : SH w K [] w K []) (hl1 : p0_x.length ≤ maxLen) (hl2 : p1_y.length ≤ maxLen) (hm : M.cmp_Compare_string F p0_x p1_y = some r) :
  Calls Try.prog 66 #[sv p0_x, sv p1_y] w fun e w' => ∃ (K' : KMap), e = .returned (.int .i64 r) ∧ SH w K [] w' K' [] ∧ rng64 r := by
 rw [M.cmp_Compare_string] at hm
 refine calls_in Try.func66 rfl Try.ntmps66 rfl ?_
 refine sr ?_
 refine wl_val wn rfl (rv_assign (v := .int .i64 0) rfl) ?_
 refine nr ?_
 refine vm rfl rfl ?_
 obtain ⟨r3, hx4, h5⟩ := ob hm
 refine wl_call wn rfl (rt_call (vs := [sv p0_x]) co101 rfl) ((ok_cmp_isNaN_string F) hS.enter0 hl1 hx4) ?_
 rintro e9 w7 ⟨K6, rfl, hS8⟩
 refine ⟨_, rfl, ?_⟩
 have hS10 : SH _ _ _ _ _ [] := SH.call0 hS hS8
 refine va rfl rfl ?_
 refine nr ?_
 refine vm rfl rfl ?_
 obtain ⟨r11, hx12, h13⟩ := ob h5
 refine wl_call wn rfl (rt_call (vs := [sv p1_y]) co101 rfl) ((ok_cmp_isNaN_string F) hS10.enter0 hl2 hx12) ?_
 rintro e17 w15 ⟨K14, rfl, hS16⟩
 refine ⟨_, rfl, ?_⟩
 have hS18 : SH _ _ _ _ _ [] := SH.call0 hS10 hS16
 refine va rfl rfl ?_
 refine nsr ?_
 refine vm rfl rfl ?_
 refine nq ?_
 refine wc_cond rfl (fun hb19 => ?_) (fun hb19 => ?_)
 ·have h20 := cond_t hb19 h13
  refine wc_seq ?_
  refine sr ?_
  refine vm rfl rfl ?_
  refine nq ?_
  refine wc_cond rfl (fun hb21 => ?_) (fun hb21 => ?_)
  ·have h22 := cond_t hb21 h20
   refine sr ?_
   refine wl_val wn rfl (rv_assign (v := .int .i64 0) rfl) ?_
   refine nq ?_
   refine rr ?_
   refine qe_then_ret ?_
   obtain rfl := oi h22
   exact qe_ret (vs := [_]) Try.results66 ⟨rfl, trivial⟩ ⟨K14, rfl, hS18, (by decide : rng64 0)⟩
  ·have h22 := cond_f hb21 h20
   refine wc_skip ?_
   refine qr ?_
   refine wl_val wn rfl (rv_assign (v := .int .i64 (-1)) rfl) ?_
   refine nq ?_
   refine rr ?_
   obtain rfl := oi h22
   exact qe_ret (vs := [_]) Try.results66 ⟨rfl, trivial⟩ ⟨K14, rfl, hS18, (by decide : rng64 (-1))⟩
 ·have h20 := cond_f hb19 h13
  refine wc_skip ?_
  refine qs ?_
  refine sr ?_
  refine vm rfl rfl ?_
  refine nq ?_
  refine wc_cond rfl (fun hb23 => ?_) (fun hb23 => ?_)
  ·have h24 := cond_t hb23 h20
   refine sr ?_
   refine wl_val wn rfl (rv_assign (v := .int .i64 1) rfl) ?_
   refine nq ?_
   refine rr ?_
   obtain rfl := oi h24
   exact qe_ret (vs := [_]) Try.results66 ⟨rfl, trivial⟩ ⟨K14, rfl, hS18, (by decide : rng64 1)⟩
  ·have h24 := cond_f hb23 h20
   refine wc_skip ?_
   refine qs ?_
   refine sr ?_
   refine vm rfl rfl ?_
   refine vm rfl rfl ?_
   refine wl_val wn rfl (rv_slss rfl rfl) ?_
   refine nq ?_
   refine wc_cond rfl (fun hb25 => ?_) (fun hb25 => ?_)
   ·have h26 := cond_t hb25 h24
    refine sr ?_
    refine wl_val wn rfl (rv_assign (v := .int .i64 (-1)) rfl) ?_
    refine nq ?_
    refine rr ?_
    obtain rfl := oi h26
    exact qe_ret (vs := [_]) Try.results66 ⟨rfl, trivial⟩ ⟨K14, rfl, hS18, (by decide : rng64 (-1))⟩
   ·have h26 := cond_f hb25 h24
    refine wc_skip ?_
    refine qs ?_
    refine sr ?_
    refine vm rfl rfl ?_
    refine vm rfl rfl ?_
    refine wl_val wn rfl (rv_sgtr rfl rfl) ?_
    refine nq ?_
    refine wc_cond rfl (fun hb27 => ?_) (fun hb27 => ?_)
    ·have h28 := cond_t hb27 h26
     refine sr ?_
     refine wl_val wn rfl (rv_assign (v := .int .i64 1) rfl) ?_
     refine nq ?_
     refine rr ?_
     obtain rfl := oi h28
     exact qe_ret (vs := [_]) Try.results66 ⟨rfl, trivial⟩ ⟨K14, rfl, hS18, (by decide : rng64 1)⟩
    ·have h28 := cond_f hb27 h26
     refine wc_skip ?_
     refine qr ?_
     refine wl_val wn rfl (rv_assign (v := .int .i64 0) rfl) ?_
     refine nq ?_
     refine wc_ret ?_
     obtain rfl := oi h28
     exact qe_ret (vs := [_]) Try.results66 ⟨rfl, trivial⟩ ⟨K14, rfl, hS18, (by decide : rng64 0)⟩

theorem ok_impl_SegOf_1 (F : Nat) {w : World} {K : KMap} {a3 : Option Addr} {n4 c5 : Nat} {a9 : Option Addr} {n10 c11 : Nat} {p0_a : GEntry} {p1_b : GEntry} {r : Int} (hS : SH w K [] w K []) (hl1 : p0_a.Field.length ≤ maxLen) (hl2 : p0_a.Term.length ≤ maxLen) (hs6 : SliceAt tGPost K a3 n4 c5 p0_a.Posts) (hl7 : p1_b.Field.length ≤ maxLen) (hl8 : p1_b.Term.length ≤ maxLen) (hs12 : SliceAt tGPost K a9 n10 c11 p1_b.Posts) (hm : M.impl_SegOf_1 F p0_a p1_b = some r) :
  Calls Try.prog 65 #[.agg #[sv p0_a.Field, sv p0_a.Term, .slice a3 n4 c5], .agg #[sv p1_b.Field, sv p1_b.Term, .slice a9 n10 c11]] w fun e w' => ∃ (K' : KMap), e = .returned (.int .i64 r) ∧ SH w K [] w' K' [] ∧ rng64 r := by
 rw [M.impl_SegOf_1] at hm
 refine calls_in Try.func65 rfl Try.ntmps65 rfl ?_
 refine sr ?_
 refine wl_box wn rfl rfl hS ?_
 intro g13 w14 hS15
 have hS16 : SH _ _ _ _ _ [obj g13 [sv p0_a.Field, sv p0_a.Term, .slice a3 n4 c5] 60] := hS15
 refine wl_box wn rfl rfl hS16 ?_
 intro g17 w18 hS19
 have hS20 : SH _ _ _ _ _ [obj g17 [sv p1_b.Field, sv p1_b.Term, .slice a9 n10 c11] 60, _] := hS19
 refine wl_val wn rfl (rv_assign (v := .int .i64 0) rfl) ?_
 refine ns ?_
 refine wc_held (fun w' => Holds K w' ∧ HasObj g13 [sv p0_a.Field, sv p0_a.Term, .slice a3 n4 c5] w' ∧ HasObj g17 [sv p1_b.Field, sv p1_b.Term, .slice a9 n10 c11] w') (fun w' => True) 13 [] mixed ?_
 have hS22 := SH.drew hS20
 refine wg_val (i := 0) (listed' := #[true, false, false, false, false, false, false, false, false, false, false, false, false]) (fun _ => True) rfl (by kernel_rfl) (pk_then pk_body) (by kernel_rfl) rfl (by kernel_rfl) (by kernel_rfl) rfl (.inl fun _ _ => trivial) ⟨⟨hS22.hasK (KLe.refl _), hS22.hasObj (.tail _ (.head _)), hS22.hasObj (.head _)⟩, (fun _ => trivial), by decide⟩ wn rfl (fun _ _ => (rv_fieldAddr ff60_0 rfl)) ?_
 refine wg_val (i := 1) (listed' := #[true, true, false, false, false, false, false, false, false, false, false, false, false]) (HasObj g13 [sv p0_a.Field, sv p0_a.Term, .slice a3 n4 c5]) rfl (by kernel_rfl) (pk_then pk_body) (by kernel_rfl) rfl (by kernel_rfl) (by kernel_rfl) rfl (.inl fun _ h => h.2.1) ⟨⟨hS22.hasK (KLe.refl _), hS22.hasObj (.tail _ (.head _)), hS22.hasObj (.head _)⟩, (fun _ => trivial), by decide⟩ wn rfl (fun _ h => rh_loadm1 tf9 rfl rfl h) ?_
 refine wg_val (i := 2) (listed' := #[true, true, true, false, false, false, false, false, false, false, false, false, false]) (fun _ => True) rfl (by kernel_rfl) (pk_then pk_body) (by kernel_rfl) rfl (by kernel_rfl) (by kernel_rfl) rfl (.inl fun _ _ => trivial) ⟨⟨hS22.hasK (KLe.refl _), hS22.hasObj (.tail _ (.head _)), hS22.hasObj (.head _)⟩, (fun _ => trivial), by decide⟩ wn rfl (fun _ _ => (rv_fieldAddr ff60_0 rfl)) ?_
 refine wg_val (i := 3) (listed' := #[true, true, true, true, false, false, false, false, false, false, false, false, false]) (HasObj g17 [sv p1_b.Field, sv p1_b.Term, .slice a9 n10 c11]) rfl (by kernel_rfl) (pk_then pk_body) (by kernel_rfl) rfl (by kernel_rfl) (by kernel_rfl) rfl (.inl fun _ h => h.2.2) ⟨⟨hS22.hasK (KLe.refl _), hS22.hasObj (.tail _ (.head _)), hS22.hasObj (.head _)⟩, (fun _ => trivial), by decide⟩ wn rfl (fun _ h => rh_loadm1 tf9 rfl rfl h) ?_
 refine wg_val (i := 5) (listed' := #[true, true, true, true, false, true, false, false, false, false, false, false, false]) (fun _ => True) rfl (by kernel_rfl) (pk_then pk_body) (by kernel_rfl) rfl (by kernel_rfl) (by kernel_rfl) rfl (.inl fun _ _ => trivial) ⟨⟨hS22.hasK (KLe.refl _), hS22.hasObj (.tail _ (.head _)), hS22.hasObj (.head _)⟩, (fun _ => trivial), by decide⟩ wn rfl (fun _ _ => (rv_fieldAddr ff60_1 rfl)) ?_
 refine wg_val (i := 6) (listed' := #[true, true, true, true, false, true, true, false, false, false, false, false, false]) (HasObj g13 [sv p0_a.Field, sv p0_a.Term, .slice a3 n4 c5]) rfl (by kernel_rfl) (pk_then pk_body) (by kernel_rfl) rfl (by kernel_rfl) (by kernel_rfl) rfl (.inl fun _ h => h.2.1) ⟨⟨hS22.hasK (KLe.refl _), hS22.hasObj (.tail _ (.head _)), hS22.hasObj (.head _)⟩, (fun _ => trivial), by decide⟩ wn rfl (fun _ h => rh_loadm1 tf9 rfl rfl h) ?_
 refine wg_val (i := 7) (listed' := #[true, true, true, true, false, true, true, true, false, false, false, false, false]) (fun _ => True) rfl (by kernel_rfl) (pk_then pk_body) (by kernel_rfl) rfl (by kernel_rfl) (by kernel_rfl) rfl (.inl fun _ _ => trivial) ⟨⟨hS22.hasK (KLe.refl _), hS22.hasObj (.tail _ (.head _)), hS22.hasObj (.head _)⟩, (fun _ => trivial), by decide⟩ wn rfl (fun _ _ => (rv_fieldAddr ff60_1 rfl)) ?_
 refine wg_val (i := 8) (listed' := #[true, true, true, true, false, true, true, true, true, false, false, false, false]) (HasObj g17 [sv p1_b.Field, sv p1_b.Term, .slice a9 n10 c11]) rfl (by kernel_rfl) (pk_then pk_body) (by kernel_rfl) rfl (by kernel_rfl) (by kernel_rfl) rfl (.inl fun _ h => h.2.2) ⟨⟨hS22.hasK (KLe.refl _), hS22.hasObj (.tail _ (.head _)), hS22.hasObj (.head _)⟩, (fun _ => trivial), by decide⟩ wn rfl (fun _ h => rh_loadm1 tf9 rfl rfl h) ?_
 refine wg_one (i := 4) (by kernel_rfl) rfl ?_
 obtain ⟨r23, hx24, h25⟩ := ob hm
 refine wl_call wn rfl (rt_call (vs := [sv p0_a.Field, sv p1_b.Field]) co66 rfl) ((ok_cmp_Compare_string F) hS22.enter0 hl1 hl7 hx24) ?_
 rintro e30 w27 ⟨K26, rfl, hS28, hr29⟩
 refine ⟨_, rfl, ?_⟩
 have hS31 : SH _ _ _ _ _ [_, _] := SH.call0 hS22 hS28
 refine wl_nil (qe_held (listed' := #[true, true, true, true, true, true, true, true, true, false, false, false, false]) rfl ⟨⟨hS31.hasK hS28.le, hS31.hasObj (.tail _ (.head _)), hS31.hasObj (.head _)⟩, (fun _ => trivial), by decide⟩ ?_)
 refine wg_one (i := 9) (by kernel_rfl) rfl ?_
 obtain ⟨r32, hx33, h34⟩ := ob h25
 refine wl_call wn rfl (rt_call (vs := [sv p0_a.Term, sv p1_b.Term]) co66 rfl) ((ok_cmp_Compare_string F) hS31.enter0 hl2 hl8 hx33) ?_
 rintro e39 w36 ⟨K35, rfl, hS37, hr38⟩
 refine ⟨_, rfl, ?_⟩
 have hS40 : SH _ _ _ _ _ [_, _] := SH.call0 hS31 hS37
 refine wl_nil (qe_held (listed' := #[true, true, true, true, true, true, true, true, true, true, false, false, false]) rfl ⟨⟨hS40.hasK (hS28.le.trans hS37.le), hS40.hasObj (.tail _ (.head _)), hS40.hasObj (.head _)⟩, (fun _ => trivial), by decide⟩ ?_)
 refine wg_one (i := 10) (by kernel_rfl) rfl ?_
 refine wl_buildSlice (t := tInt) (n := 2) (pv := [(0, .int .i64 r23), (1, .int .i64 r32)]) (cs := [.int .i64 r23, .int .i64 r32]) (xs := [r23, r32]) wn rfl Try.underlying24 tf3 rfl rfl rfl (by kernel_rfl) rfl rfl (lit_cons (u := .int .i64 r23) (z := r23) ⟨rfl, hr29⟩ (lit_cons (u := .int .i64 r32) (z := r32) ⟨rfl, hr38⟩ lit_nil)) hS40 ?_
 intro a41 w42 K43 hl44 hs45 hS46
 refine wl_nil (qe_held (listed' := #[true, true, true, true, true, true, true, true, true, true, true, false, false]) rfl ⟨⟨hS46.hasK ((hS28.le.trans hS37.le).trans hl44), hS46.hasObj (.tail _ (.tail _ (.head _))), hS46.hasObj (.tail _ (.head _))⟩, (fun _ => trivial), by decide⟩ ?_)
 refine wg_one (i := 11) (by kernel_rfl) rfl ?_
 obtain ⟨r47, hx48, h49⟩ := ob h34
 refine wl_call wn rfl (rt_call (vs := [.slice a41 2 2]) co42 rfl) ((ok_cmp_Or_int F) hS46.enter0 hs45 hx48) ?_
 rintro e54 w51 ⟨K50, rfl, hS52, hr53⟩
 refine ⟨_, rfl, ?_⟩
 have hS55 : SH _ _ _ _ _ [_, _, _] := SH.call0 hS46 hS52
 refine wl_nil (qe_held (listed' := #[true, true, true, true, true, true, true, true, true, true, true, true, false]) rfl ⟨⟨hS55.hasK (((hS28.le.trans hS37.le).trans hl44).trans hS52.le), hS55.hasObj (.tail _ (.tail _ (.head _))), hS55.hasObj (.tail _ (.head _))⟩, (fun _ => trivial), by decide⟩ ?_)
 refine wg_val (i := 12) (listed' := #[true, true, true, true, true, true, true, true, true, true, true, true, true]) (fun _ => True) rfl (by kernel_rfl) (pk_then pk_body) (by kernel_rfl) rfl (by kernel_rfl) (by kernel_rfl) rfl (.inl fun _ _ => trivial) ⟨⟨hS55.hasK (((hS28.le.trans hS37.le).trans hl44).trans hS52.le), hS55.hasObj (.tail _ (.tail _ (.head _))), hS55.hasObj (.tail _ (.head _))⟩, (fun _ => trivial), by decide⟩ wn rfl (fun _ _ => (rv_assign rfl)) ?_
 refine wg_done (by kernel_rfl) ?_
 refine qe_seq ?_
 refine wc_ret ?_
 obtain rfl := oi h49
 have hS56 : SH _ _ _ _ _ [] := SH.sublist hS55 (.cons _ (.cons _ (.cons _ .slnil)))
 exact qe_ret (vs := [_]) Try.results65 ⟨rfl, trivial⟩ ⟨K50, rfl, hS56, hr53⟩

set_option maxHeartbeats 2000000 in
theorem ok_impl_SegOf (F : Nat) {w : World} {K : KMap} {a1 : Option Addr} {n2 c3 : Nat} {a5 : Option Addr} {n6 c7 : Nat} {a9 : Option Addr} {n10 c11 : Nat} {p0_c : GConf} {p1_docs : List GDoc} {r : GSeg} (hS : SH w K [] w K []) (hs4 : SliceAt tStr K a1 n2 c3 p0_c.Stops) (hs8 : SliceAt tGSyn K a5 n6 c7 p0_c.Syns) (hs12 : SliceAt tGDoc K a9 n10 c11 p1_docs) (hm : M.impl_SegOf F p0_c p1_docs = some r) :
  Calls Try.prog 21 #[.agg #[.slice a1 n2 c3, .slice a5 n6 c7], .slice a9 n10 c11] w fun e w' => ∃ (a_1 : Option Addr) (n_2 c_3 : Nat) (a_5 : Option Addr) (n_6 c_7 : Nat) (K' : KMap), e = .returned (.agg #[.slice a_1 n_2 c_3, .slice a_5 n_6 c_7]) ∧ SH w K [] w' K' [tail (.slice a_5 n_6 c_7) 60 3] ∧ SliceAt tGDoc K' a_1 n_2 c_3 r.Docs ∧ SliceAt tGEntry K' a_5 n_6 c_7 r.Entries := by
 rw [M.impl_SegOf] at hm
 refine calls_in Try.func21 rfl Try.ntmps21 rfl ?_
 refine sr ?_
 refine wl_box wn rfl rfl hS ?_
 intro g13 w14 hS15
 have hS16 : SH _ _ _ _ _ [obj g13 [.slice a1 n2 c3, .slice a5 n6 c7] 39] := hS15
 refine wl_alloc wn rfl tf42 hS16 ?_
 intro g17 w18 hS19
 have hS20 : SH _ _ _ _ _ [obj g17 [.slice none 0 0, .slice none 0 0] 42, _] := hS19
 refine ns ?_
 refine wc_seq ?_
 obtain ⟨o21, h22, h23⟩ := ob hm
 refine wc_cutg (fun E' w' => ∃ (K24 : KMap), E' = [(1, .slice a9 n10 c11), (2, .pointer (some ⟨g13, 0, none⟩)), (4, .pointer (some ⟨g17, 0, none⟩)), (19, .bool o21)] ∧ SH w K [] w' K24 [obj g13 [.slice a1 n2 c3, .slice a5 n6 c7] 39, obj g17 [.slice none 0 0, .slice none 0 0] 42] ∧ KLe K K24) ?_ ?_
 ·refine wc_region ?_
  refine wl_val wn rfl (rv_loadmS (ds := [.slice a1 n2 c3, .slice a5 n6 c7]) tf39 rfl (.tail _ (.head _)) hS20 rfl rfl) ?_
  obtain ⟨r28, hx29, h30⟩ := ob h22
  refine wl_call wn rfl (rt_call (vs := [.agg #[.slice a1 n2 c3, .slice a5 n6 c7]]) co24 rfl) ((ok_impl_ConfOk F) hS20.enter0 hs4 hs8 hx29) ?_
  rintro e34 w32 ⟨K31, rfl, hS33⟩
  refine ⟨_, rfl, ?_⟩
  have hS35 : SH _ _ _ _ _ [_, _] := SH.call0 hS20 hS33
  refine wl_val wn rfl (rv_not rfl) ?_
  refine vm rfl rfl ?_
  rcases bool_tf ((!r28)) with hb36 | hb36
  ·have h37 := cond_t hb36 h30
   refine wl_un (ug rfl rfl hb36) rfl ?_
   refine wl_un (ug rfl rfl hb36) rfl ?_
   refine wl_un (ug rfl rfl hb36) rfl ?_
   refine wl_val wn rfl (rv_pick_t (v := .bool true) rfl hb36 rfl) ?_
   refine wl_nil ?_
   obtain rfl := oi h37
   have hS38 : SH _ _ _ _ _ [_, _] := SH.front (p := [_]) hS35
   exact qe_mid' ⟨K31, rfl, hS38, hS33.le⟩ ⟨rfl, rfl, rfl, rfl, trivial⟩
  ·have h37 := cond_f hb36 h30
   refine wl_val (wg rfl rfl hb36) rfl (rv_move rfl) ?_
   obtain ⟨r39, hx40, h41⟩ := ob h37
   refine wl_call (wg rfl rfl hb36) rfl (rt_call (vs := [.slice a9 n10 c11]) co12 rfl) ((ok_impl_DocsOk F) hS35.enter0 (SliceAt.mono hS33.le hs12) hx40) ?_
   rintro e45 w43 ⟨K42, rfl, hS44⟩
   refine ⟨_, rfl, ?_⟩
   have hS46 : SH _ _ _ _ _ [_, _] := SH.call0 hS35 hS44
   refine wl_val (wg rfl rfl hb36) rfl (rv_not rfl) ?_
   refine wl_val wn rfl (rv_pick_f rfl hb36 rfl) ?_
   refine wl_nil ?_
   obtain rfl := oi h41
   have hS47 : SH _ _ _ _ _ [_, _] := SH.front (p := [_]) hS46
   exact qe_mid' ⟨K42, rfl, hS47, (hS33.le.trans hS44.le)⟩ ⟨rfl, rfl, rfl, rfl, trivial⟩
 ·rintro _ w26 ⟨K24, rfl, hS27, hl25⟩
  refine qe_seq ?_
  refine wc_cond rfl (fun hb48 => ?_) (fun hb48 => ?_)
  ·have h49 := cond_t hb48 h23
   refine sr ?_
   refine wl_val wn rfl (rv_build (cs := #[.slice none 0 0, .slice none 0 0]) sp42 tf42 rfl (by kernel_rfl)) ?_
   have hS50 : SH _ _ _ _ _ [_, _] := SH.front (p := [_]) hS27
   refine wl_store (cs' := [.slice none 0 0, .slice none 0 0]) (v := .agg #[.slice none 0 0, .slice none 0 0]) wn tf42 rfl rfl rfl (by simp [Value.cells, Value.oneCell']) hS50 rfl rfl ?_
   intro w51 hS52
   refine nq ?_
   refine rr ?_
   obtain rfl := oi h49
   have hS53 := SH.nil hS52 60 3
   have hS54 : SH _ _ _ _ _ [_] := SH.sublist hS53 (.cons_cons _ (.cons _ (.cons _ .slnil)))
   exact qe_ret (vs := [_]) Try.results21 ⟨⟨_, _, rfl, run_loadVar_at tf42 (cs := [.slice none 0 0, .slice none 0 0]) (fun j c e => by rw [Nat.zero_add, hS52.mem_obj (.head _)]; exact e) (.inl ⟨rfl, rfl, rfl⟩)⟩, trivial⟩ ⟨none, 0, 0, none, 0, 0, K24, rfl, hS54, (SliceAt.nil _ _), (SliceAt.nil _ _)⟩
  ·have h49 := cond_f hb48 h23
   refine wc_skip ?_
   refine qr ?_
   refine vm rfl rfl ?_
   obtain ⟨r55, hx56, h57⟩ := ob h49
   refine wl_call wn rfl (rt_call (vs := [.slice a9 n10 c11]) co62 rfl) ((ok_impl_cloneDocs F) hS27.enter0 (SliceAt.mono hl25 hs12) hx56) ?_
   rintro e65 w59 ⟨a61, n62, c63, K58, rfl, hS60, hs64⟩
   refine ⟨_, rfl, ?_⟩
   have hS66 : SH _ _ _ _ _ [_, _, _] := SH.call0 hS27 hS60
   refine wl_buildSlice0 tGEntry wn rfl Try.underlying40 tf60 hS66 ?_
   intro a67 w68 K69 hl70 hs71 hS72
   refine wl_val wn rfl (rv_build (cs := #[.slice a61 n62 c63, .slice a67 0 0]) sp42 tf42 rfl (by kernel_rfl)) ?_
   refine wl_alloc wn rfl tf42 hS72 ?_
   intro g73 w74 hS75
   have hS76 : SH _ _ _ _ _ [obj g73 [.slice none 0 0, .slice none 0 0] 42, _, _, _, _] := hS75
   refine wl_store (cs' := [.slice a61 n62 c63, .slice a67 0 0]) (v := .agg #[.slice a61 n62 c63, .slice a67 0 0]) wn tf42 rfl rfl rfl (by simp [Value.cells, Value.oneCell']) hS76 rfl rfl ?_
   intro w77 hS78
   refine nsr ?_
   refine vm rfl rfl ?_
   refine wl_val wn rfl (rv_len (t := tGDoc) Try.underlying23 rfl (SliceAt.mono ((hl25.trans hS60.le).trans hl70) hs12)) ?_
   refine wl_val wn rfl (rv_move (v := .int .i64 0) rfl) ?_
   refine nq ?_
   obtain ⟨o79, h80, h81⟩ := ob h57
   refine wc_cutg (fun E' w' => ∃ (a86 : Option Addr) (n87 c88 : Nat) (a90 : Option Addr) (n91 c92 : Nat) (lay93 : List ELay) (K82 : KMap), E' = [(4, .pointer (some ⟨g17, 0, none⟩)), (5, .pointer (some ⟨g73, 0, none⟩))] ∧ SH w K [] w' K82 [obj g17 [.slice none 0 0, .slice none 0 0] 42, obj g73 [.slice a86 n87 c88, .slice a90 n91 c92] 42, pack (segItems 60 64 3 a90 n91 c92 lay93)] ∧ KLe K69 K82 ∧ SliceAt tGDoc K82 a86 n87 c88 o79.Docs ∧ LayOk lay93 o79.Entries) ?_ ?_
   ·refine wc_block ?_
    obtain ⟨r96, h97, h98⟩ := ob h80
    have hS113 : SH _ _ _ _ _ [_, _, _, _, _] := SH.front (p := [_]) hS78
    have hS114 := seg_empty (TP := 64) (TI := 3) hS113
    have hS115 : SH _ _ _ _ _ [_, _, _, _, _] := SH.front (p := [_]) hS114
    have hS116 : SH _ _ _ _ _ [_, _, _, _, _] := SH.front (p := [_, _, _, _]) hS115
    have hS117 : SH _ _ _ _ _ [_, _, _, _, _] := SH.front (p := [_, _, _, _]) hS116
    have hS118 : SH _ _ _ _ _ [_, _, _, _] := SH.sublist hS117 (.cons_cons _ (.cons_cons _ (.cons_cons _ (.cons_cons _ (.cons _ .slnil)))))
    refine wc_forE' (fun (i99 : Nat) (s95 : GSeg) E' w' => ∃ (a104 : Option Addr) (n105 c106 : Nat) (a108 : Option Addr) (n109 c110 : Nat) (lay111 : List ELay) (K100 : KMap), E' = [(2, .pointer (some ⟨g13, 0, none⟩)), (4, .pointer (some ⟨g17, 0, none⟩)), (5, .pointer (some ⟨g73, 0, none⟩)), (25, .slice a9 n10 c11), (26, .int .i64 (p1_docs.length : Int)), (27, .int .i64 ((i99 : Nat) : Int))] ∧ SH w K [] w' K100 [obj g13 [.slice a1 n2 c3, .slice a5 n6 c7] 39, obj g17 [.slice none 0 0, .slice none 0 0] 42, obj g73 [.slice a104 n105 c106, .slice a108 n109 c110] 42, pack (segItems 60 64 3 a108 n109 c110 lay111)] ∧ KLe K69 K100 ∧ SliceAt tGDoc K100 a104 n105 c106 s95.Docs ∧ LayOk lay111 s95.Entries) h97 ⟨a61, n62, c63, a67, 0, 0, [], K69, rfl, hS118, (KLe.refl _), (SliceAt.mono hl70 hs64), ⟨(fun _ h => nomatch h), rfl⟩⟩ ⟨rfl, rfl, rfl, rfl, rfl, rfl, trivial⟩ ?_ ?_
    ·rintro i99 s95 _ w102 r119 hi120 h121 ⟨a104, n105, c106, a108, n109, c110, lay111, K100, rfl, hS103, hl101, hs107, hl112⟩
     refine sr ?_
     refine wl_val wn rfl (rv_lss rfl rfl) ?_
     refine ns ?_
     refine wc_cond_t rfl (decide_eq_true (by omega)) (wc_skip (qe_seq (wc_seq ?_)))
     refine wc_block ?_
     refine sr ?_
     obtain ⟨x123, hx124, h125⟩ := ob h121
     refine wl_indexAddr (t := tGDoc) wn rfl Try.underlying23 tf49 rfl rfl (SliceAt.mono (((hl25.trans hS60.le).trans hl70).trans hl101) hs12) hx124 ?_
     intro b126 o127 u128 hu129 ha130
     obtain ⟨a132, n133, c134, a136, n137, c138, rfl, hr131, hs135, hs139⟩ := hu129
     have ha140 : AtK _ b126 o127 [.int .i64 x123.Id, .slice a132 n133 c134, .slice a136 n137 c138] := ha130
     refine wl_val wn rfl (rv_loadS (cs := [.int .i64 x123.Id, .slice a132 n133 c134, .slice a136 n137 c138]) tf49 rfl hS103 ha140 rfl) ?_
     refine wl_alloc wn rfl tf49 hS103 ?_
     intro g141 w142 hS143
     have hS144 : SH _ _ _ _ _ [obj g141 [.int .i64 0, .slice none 0 0, .slice none 0 0] 49, _, _, _, _] := hS143
     refine wl_store (cs' := [.int .i64 x123.Id, .slice a132 n133 c134, .slice a136 n137 c138]) (v := .agg #[.int .i64 x123.Id, .slice a132 n133 c134, .slice a136 n137 c138]) wn tf49 rfl rfl rfl (by simp [Value.cells, Value.oneCell']) hS144 rfl rfl ?_
     intro w145 hS146
     refine nr ?_
     refine wl_val wn rfl (rv_fieldAddr ff49_1 rfl) ?_
     refine wl_val wn rfl (rv_loadm1 tf46 rfl (.head _) hS146 rfl) ?_
     refine wl_val wn rfl (rv_len (t := tGField) Try.underlying46 rfl hs135) ?_
     refine wl_val wn rfl (rv_move (v := .int .i64 0) rfl) ?_
     refine nq ?_
     obtain ⟨o147, h148, h149⟩ := ob h125
     refine wc_cutg (fun E' w' => ∃ (a154 : Option Addr) (n155 c156 : Nat) (a158 : Option Addr) (n159 c160 : Nat) (lay161 : List ELay) (K150 : KMap), E' = [(2, .pointer (some ⟨g13, 0, none⟩)), (4, .pointer (some ⟨g17, 0, none⟩)), (5, .pointer (some ⟨g73, 0, none⟩)), (25, .slice a9 n10 c11), (26, .int .i64 (p1_docs.length : Int)), (27, .int .i64 ((i99 : Nat) : Int))] ∧ SH w K [] w' K150 [obj g13 [.slice a1 n2 c3, .slice a5 n6 c7] 39, obj g17 [.slice none 0 0, .slice none 0 0] 42, obj g73 [.slice a154 n155 c156, .slice a158 n159 c160] 42, pack (segItems 60 64 3 a158 n159 c160 lay161)] ∧ KLe K100 K150 ∧ SliceAt tGDoc K150 a154 n155 c156 o147.Docs ∧ LayOk lay161 o147.Entries) ?_ ?_
     ·refine wc_block ?_
      obtain ⟨r164, h165, h166⟩ := ob h148
      have hS181 : SH _ _ _ _ _ [_, _, _, _, _] := SH.front (p := [_, _, _, _]) hS146
      have hS182 : SH _ _ _ _ _ [_, _, _, _, _] := SH.front (p := [_, _, _, _]) hS181
      have hS183 : SH _ _ _ _ _ [_, _, _, _, _] := SH.front (p := [_, _, _, _]) hS182
      have hS184 : SH _ _ _ _ _ [_, _, _, _, _] := SH.front (p := [_, _, _, _]) hS183
      refine wc_forE' (fun (i167 : Nat) (s163 : GSeg) E' w' => ∃ (a172 : Option Addr) (n173 c174 : Nat) (a176 : Option Addr) (n177 c178 : Nat) (lay179 : List ELay) (K168 : KMap), E' = [(2, .pointer (some ⟨g13, 0, none⟩)), (4, .pointer (some ⟨g17, 0, none⟩)), (5, .pointer (some ⟨g73, 0, none⟩)), (7, .pointer (some ⟨g141, 0, none⟩)), (25, .slice a9 n10 c11), (26, .int .i64 (p1_docs.length : Int)), (27, .int .i64 ((i99 : Nat) : Int)), (32, .slice a132 n133 c134), (33, .int .i64 (x123.Fields.length : Int)), (34, .int .i64 ((i167 : Nat) : Int))] ∧ SH w K [] w' K168 [obj g13 [.slice a1 n2 c3, .slice a5 n6 c7] 39, obj g17 [.slice none 0 0, .slice none 0 0] 42, obj g73 [.slice a172 n173 c174, .slice a176 n177 c178] 42, pack (segItems 60 64 3 a176 n177 c178 lay179), obj g141 [.int .i64 x123.Id, .slice a132 n133 c134, .slice a136 n137 c138] 49] ∧ KLe K100 K168 ∧ SliceAt tGDoc K168 a172 n173 c174 s163.Docs ∧ LayOk lay179 s163.Entries) h165 ⟨a104, n105, c106, a108, n109, c110, lay111, K100, rfl, hS184, (KLe.refl _), hs107, hl112⟩ ⟨rfl, rfl, rfl, rfl, rfl, rfl, rfl, rfl, rfl, rfl, trivial⟩ ?_ ?_
      ·rintro i167 s163 _ w170 r185 hi186 h187 ⟨a172, n173, c174, a176, n177, c178, lay179, K168, rfl, hS171, hl169, hs175, hl180⟩
       refine sr ?_
       refine wl_val wn rfl (rv_lss rfl rfl) ?_
       refine ns ?_
       refine wc_cond_t rfl (decide_eq_true (by omega)) (wc_skip (qe_seq (wc_seq ?_)))
       refine wc_block ?_
       refine sr ?_
       obtain ⟨x189, hx190, h191⟩ := ob h187
       refine wl_indexAddr (t := tGField) wn rfl Try.underlying46 tf107 rfl rfl (SliceAt.mono hl169 hs135) hx190 ?_
       intro b192 o193 u194 hu195 ha196
       obtain ⟨rfl, hl197, hl198⟩ := hu195
       have ha199 : AtK _ b192 o193 [sv x189.Name, sv x189.Text] := ha196
       refine wl_val wn rfl (rv_loadS (cs := [sv x189.Name, sv x189.Text]) tf107 rfl hS171 ha199 rfl) ?_
       refine wl_alloc wn rfl tf107 hS171 ?_
       intro g200 w201 hS202
       have hS203 : SH _ _ _ _ _ [obj g200 [sv [], sv []] 107, _, _, _, _, _] := hS202
       refine wl_store (cs' := [sv x189.Name, sv x189.Text]) (v := .agg #[sv x189.Name, sv x189.Text]) wn tf107 rfl rfl rfl (by simp [Value.cells, Value.oneCell', sv]) hS203 rfl rfl ?_
       intro w204 hS205
       refine nr ?_
       refine wl_val wn rfl (rv_loadmS (ds := [.slice a1 n2 c3, .slice a5 n6 c7]) tf39 rfl (.tail _ (.head _)) hS205 rfl rfl) ?_
       refine wl_val wn rfl (rv_fieldAddr ff107_1 rfl) ?_
       refine wl_val wn rfl (rv_loadm1 tf9 rfl (.head _) hS205 rfl) ?_
       obtain ⟨r206, hx207, h208⟩ := ob h191
       refine wl_call wn rfl (rt_call (vs := [.agg #[.slice a1 n2 c3, .slice a5 n6 c7], sv x189.Text]) co18 rfl) ((ok_impl_TermsOf F) hS205.enter0 (SliceAt.mono ((((hl25.trans hS60.le).trans hl70).trans hl101).trans hl169) hs4) (SliceAt.mono ((((hl25.trans hS60.le).trans hl70).trans hl101).trans hl169) hs8) hl198 hx207) ?_
       rintro e216 w210 ⟨a212, n213, c214, K209, rfl, hS211, hs215⟩
       refine ⟨_, rfl, ?_⟩
       have hS217 : SH _ _ _ _ _ [_, _, _, _, _, _, _] := SH.call0 hS205 hS211
       refine wl_val wn rfl (rv_len (t := tGTerm) Try.underlying50 rfl hs215) ?_
       refine wl_val wn rfl (rv_move (v := .int .i64 0) rfl) ?_
       refine nq ?_
       obtain ⟨o218, h219, h220⟩ := ob h208
       refine wc_cutg (fun E' w' => ∃ (a225 : Option Addr) (n226 c227 : Nat) (a229 : Option Addr) (n230 c231 : Nat) (lay232 : List ELay) (K221 : KMap), E' = [(2, .pointer (some ⟨g13, 0, none⟩)), (4, .pointer (some ⟨g17, 0, none⟩)), (5, .pointer (some ⟨g73, 0, none⟩)), (7, .pointer (some ⟨g141, 0, none⟩)), (25, .slice a9 n10 c11), (26, .int .i64 (p1_docs.length : Int)), (27, .int .i64 ((i99 : Nat) : Int)), (32, .slice a132 n133 c134), (33, .int .i64 (x123.Fields.length : Int)), (34, .int .i64 ((i167 : Nat) : Int))] ∧ SH w K [] w' K221 [obj g13 [.slice a1 n2 c3, .slice a5 n6 c7] 39, obj g17 [.slice none 0 0, .slice none 0 0] 42, obj g73 [.slice a225 n226 c227, .slice a229 n230 c231] 42, pack (segItems 60 64 3 a229 n230 c231 lay232), obj g141 [.int .i64 x123.Id, .slice a132 n133 c134, .slice a136 n137 c138] 49] ∧ KLe K209 K221 ∧ SliceAt tGDoc K221 a225 n226 c227 o218.Docs ∧ LayOk lay232 o218.Entries) ?_ ?_
       ·refine wc_block ?_
        obtain ⟨r235, h236, h237⟩ := ob h219
        have hS252 : SH _ _ _ _ _ [_, _, _, _, _, _, _] := SH.front (p := [_]) hS217
        have hS253 : SH _ _ _ _ _ [_, _, _, _, _, _, _] := SH.front (p := [_, _, _, _, _, _]) hS252
        have hS254 : SH _ _ _ _ _ [_, _, _, _, _, _, _] := SH.front (p := [_, _, _, _, _, _]) hS253
        have hS255 : SH _ _ _ _ _ [_, _, _, _, _, _, _] := SH.front (p := [_, _, _, _, _, _]) hS254
        have hS256 : SH _ _ _ _ _ [_, _, _, _, _, _, _] := SH.front (p := [_, _, _, _, _, _]) hS255
        have hS257 : SH _ _ _ _ _ [_, _, _, _, _, _, _] := SH.front (p := [_, _, _, _, _, _]) hS256
        have hS258 : SH _ _ _ _ _ [_, _, _, _, _, _] := SH.sublist hS257 (.cons_cons _ (.cons_cons _ (.cons_cons _ (.cons_cons _ (.cons_cons _ (.cons_cons _ (.cons _ .slnil)))))))
        refine wc_forE' (fun (i238 : Nat) (s234 : GSeg) E' w' => ∃ (a243 : Option Addr) (n244 c245 : Nat) (a247 : Option Addr) (n248 c249 : Nat) (lay250 : List ELay) (K239 : KMap), E' = [(2, .pointer (some ⟨g13, 0, none⟩)), (4, .pointer (some ⟨g17, 0, none⟩)), (5, .pointer (some ⟨g73, 0, none⟩)), (7, .pointer (some ⟨g141, 0, none⟩)), (9, .pointer (some ⟨g200, 0, none⟩)), (25, .slice a9 n10 c11), (26, .int .i64 (p1_docs.length : Int)), (27, .int .i64 ((i99 : Nat) : Int)), (32, .slice a132 n133 c134), (33, .int .i64 (x123.Fields.length : Int)), (34, .int .i64 ((i167 : Nat) : Int)), (41, .slice a212 n213 c214), (42, .int .i64 (r206.length : Int)), (43, .int .i64 ((i238 : Nat) : Int))] ∧ SH w K [] w' K239 [obj g13 [.slice a1 n2 c3, .slice a5 n6 c7] 39, obj g17 [.slice none 0 0, .slice none 0 0] 42, obj g73 [.slice a243 n244 c245, .slice a247 n248 c249] 42, pack (segItems 60 64 3 a247 n248 c249 lay250), obj g141 [.int .i64 x123.Id, .slice a132 n133 c134, .slice a136 n137 c138] 49, obj g200 [sv x189.Name, sv x189.Text] 107] ∧ KLe K209 K239 ∧ SliceAt tGDoc K239 a243 n244 c245 s234.Docs ∧ LayOk lay250 s234.Entries) h236 ⟨a172, n173, c174, a176, n177, c178, lay179, K209, rfl, hS258, (KLe.refl _), (SliceAt.mono hS211.le hs175), hl180⟩ ⟨rfl, rfl, rfl, rfl, rfl, rfl, rfl, rfl, rfl, rfl, rfl, rfl, rfl, rfl, trivial⟩ ?_ ?_
        ·rintro i238 s234 _ w241 r259 hi260 h261 ⟨a243, n244, c245, a247, n248, c249, lay250, K239, rfl, hS242, hl240, hs246, hl251⟩
         refine sr ?_
         refine wl_val wn rfl (rv_lss rfl rfl) ?_
         refine ns ?_
         refine wc_cond_t rfl (decide_eq_true (by omega)) (wc_skip (qe_seq (wc_seq ?_)))
         refine wc_block ?_
         refine sr ?_
         obtain ⟨x263, hx264, h265⟩ := ob h261
         refine wl_indexAddr (t := tGTerm) wn rfl Try.underlying50 tf74 rfl rfl (SliceAt.mono hl240 hs215) hx264 ?_
         intro b266 o267 u268 hu269 ha270
         obtain ⟨rfl, hl271, hr272⟩ := hu269
         have ha273 : AtK _ b266 o267 [sv x263.Text, .int .i64 x263.At] := ha270
         refine wl_val wn rfl (rv_loadS (cs := [sv x263.Text, .int .i64 x263.At]) tf74 rfl hS242 ha273 rfl) ?_
         refine wl_alloc wn rfl tf74 hS242 ?_
         intro g274 w275 hS276
         have hS277 : SH _ _ _ _ _ [obj g274 [sv [], .int .i64 0] 74, _, _, _, _, _, _] := hS276
         refine wl_store (cs' := [sv x263.Text, .int .i64 x263.At]) (v := .agg #[sv x263.Text, .int .i64 x263.At]) wn tf74 rfl rfl rfl (by simp [Value.cells, Value.oneCell', sv]) hS277 rfl rfl ?_
         intro w278 hS279
         refine nq ?_
         refine wc_region ?_
         refine wl_val wn rfl (rv_fieldAddr ff107_0 rfl) ?_
         refine wl_val wn rfl (rv_loadm1 tf9 rfl (.tail _ (.tail _ (.tail _ (.tail _ (.tail _ (.tail _ (.head _))))))) hS279 rfl) ?_
         refine wl_val wn rfl (rv_loadmS (ds := [sv x263.Text, .int .i64 x263.At]) tf74 rfl (.head _) hS279 rfl rfl) ?_
         refine wl_val wn rfl (rv_fieldAddr ff49_0 rfl) ?_
         refine wl_val wn rfl (rv_loadm1 tf3 rfl (.tail _ (.tail _ (.tail _ (.tail _ (.tail _ (.head _)))))) hS279 rfl) ?_
         obtain ⟨r280, hx281, h282⟩ := ob h265
         have hS283 : SH _ _ _ _ _ [_, _, _, _, _, _, _] := SH.front (p := [_, _, _, _]) hS279
         have hS284 : SH _ _ _ _ _ [_, _, _, _, _, _, _] := SH.front (p := [_, _, _, _]) hS283
         refine wl_call wn rfl (rt_call (vs := [.pointer (some ⟨g73, 0, none⟩), sv x189.Name, .agg #[sv x263.Text, .int .i64 x263.At], .int .i64 x123.Id]) co63 rfl) ((ok_impl_Seg_put F) (SH.enter (Lin := [_, _]) hS284) hs246 hl251 hl197 hl271 hr272 hr131 hx281) ?_
         rintro e297 w286 ⟨a288, n289, c290, a292, n293, c294, lay295, K285, rfl, hS287, hs291, hl296⟩
         refine ⟨_, rfl, ?_⟩
         have hS298 : SH _ _ _ _ _ [_, _, _, _, _, _, _] := SH.call (Lin := [_, _]) hS284 hS287
         refine nb ?_
         refine qg ?_
         refine wl_val wn rfl (rv_add_to rfl rfl (w64_succ hi260 (SliceAt.max hs215))) ?_
         refine vm rfl rfl ?_
         refine wl_nil ?_
         obtain rfl := oi h282
         have hS299 : SH _ _ _ _ _ [_, _, _, _, _, _, _] := SH.front (p := [_, _, _, _, _, _]) hS298
         have hS300 : SH _ _ _ _ _ [_, _, _, _, _, _, _] := SH.front (p := [_, _, _, _, _, _]) hS299
         have hS301 : SH _ _ _ _ _ [_, _, _, _, _, _, _] := SH.front (p := [_, _, _]) hS300
         have hS302 : SH _ _ _ _ _ [_, _, _, _, _, _, _] := SH.front (p := [_, _, _]) hS301
         have hS303 : SH _ _ _ _ _ [_, _, _, _, _, _, _] := SH.front (p := [_, _, _, _, _, _]) hS302
         have hS304 : SH _ _ _ _ _ [_, _, _, _, _, _, _] := SH.front (p := [_, _, _, _, _, _]) hS303
         have hS305 : SH _ _ _ _ _ [_, _, _, _, _, _] := SH.sublist hS304 (.cons_cons _ (.cons_cons _ (.cons_cons _ (.cons_cons _ (.cons_cons _ (.cons_cons _ (.cons _ .slnil)))))))
         exact qe_mid' ⟨a288, n289, c290, a292, n293, c294, lay295, K285, rfl, hS305, (hl240.trans hS287.le), hs291, hl296⟩ ⟨rfl, rfl, rfl, rfl, rfl, rfl, rfl, rfl, rfl, rfl, rfl, rfl, rfl, rfl, trivial⟩
        ·rintro s234 _ w241 hr306 ⟨a243, n244, c245, a247, n248, c249, lay250, K239, rfl, hS242, hl240, hs246, hl251⟩
         subst hr306
         refine sr ?_
         refine wl_val wn rfl (rv_lss rfl rfl) ?_
         refine ns ?_
         refine wc_cond_f rfl (decide_eq_false (by omega)) ?_
         refine wc_exit ?_
         refine qe_then_exit ?_
         refine qe_then_exit ?_
         refine qe_block_eq ?_
         obtain rfl := oi h237
         have hS307 : SH _ _ _ _ _ [_, _, _, _, _] := SH.sublist hS242 (.cons_cons _ (.cons_cons _ (.cons_cons _ (.cons_cons _ (.cons_cons _ (.cons _ .slnil))))))
         exact qe_mid' ⟨a243, n244, c245, a247, n248, c249, lay250, K239, rfl, hS307, hl240, hs246, hl251⟩ ⟨rfl, rfl, rfl, rfl, rfl, rfl, rfl, rfl, rfl, rfl, trivial⟩
       ·rintro _ w223 ⟨a225, n226, c227, a229, n230, c231, lay232, K221, rfl, hS224, hl222, hs228, hl233⟩
        refine qe_block ?_
        refine qg ?_
        refine wl_val wn rfl (rv_add_to rfl rfl (w64_succ hi186 (SliceAt.max hs135))) ?_
        refine vm rfl rfl ?_
        refine wl_nil ?_
        obtain rfl := oi h220
        exact qe_mid' ⟨a225, n226, c227, a229, n230, c231, lay232, K221, rfl, hS224, ((hl169.trans hS211.le).trans hl222), hs228, hl233⟩ ⟨rfl, rfl, rfl, rfl, rfl, rfl, rfl, rfl, rfl, rfl, trivial⟩
      ·rintro s163 _ w170 hr308 ⟨a172, n173, c174, a176, n177, c178, lay179, K168, rfl, hS171, hl169, hs175, hl180⟩
       subst hr308
       refine sr ?_
       refine wl_val wn rfl (rv_lss rfl rfl) ?_
       refine ns ?_
       refine wc_cond_f rfl (decide_eq_false (by omega)) ?_
       refine wc_exit ?_
       refine qe_then_exit ?_
       refine qe_then_exit ?_
       refine qe_block_eq ?_
       obtain rfl := oi h166
       have hS309 : SH _ _ _ _ _ [_, _, _, _] := SH.sublist hS171 (.cons_cons _ (.cons_cons _ (.cons_cons _ (.cons_cons _ (.cons _ .slnil)))))
       exact qe_mid' ⟨a172, n173, c174, a176, n177, c178, lay179, K168, rfl, hS309, hl169, hs175, hl180⟩ ⟨rfl, rfl, rfl, rfl, rfl, rfl, trivial⟩
     ·rintro _ w152 ⟨a154, n155, c156, a158, n159, c160, lay161, K150, rfl, hS153, hl151, hs157, hl162⟩
      refine qe_block ?_
      refine qg ?_
      refine wl_val wn rfl (rv_add_to rfl rfl (w64_succ hi120 (SliceAt.max (SliceAt.mono ((hl25.trans hS60.le).trans hl70) hs12)))) ?_
      refine vm rfl rfl ?_
      refine wl_nil ?_
      obtain rfl := oi h149
      exact qe_mid' ⟨a154, n155, c156, a158, n159, c160, lay161, K150, rfl, hS153, (hl101.trans hl151), hs157, hl162⟩ ⟨rfl, rfl, rfl, rfl, rfl, rfl, trivial⟩
    ·rintro s95 _ w102 hr310 ⟨a104, n105, c106, a108, n109, c110, lay111, K100, rfl, hS103, hl101, hs107, hl112⟩
     subst hr310
     refine sr ?_
     refine wl_val wn rfl (rv_lss rfl rfl) ?_
     refine ns ?_
     refine wc_cond_f rfl (decide_eq_false (by omega)) ?_
     refine wc_exit ?_
     refine qe_then_exit ?_
     refine qe_then_exit ?_
     refine qe_block_eq ?_
     obtain rfl := oi h98
     have hS311 : SH _ _ _ _ _ [_, _, _] := SH.sublist hS103 (.cons _ (.cons_cons _ (.cons_cons _ (.cons_cons _ .slnil))))
     exact qe_mid' ⟨a104, n105, c106, a108, n109, c110, lay111, K100, rfl, hS311, hl101, hs107, hl112⟩ ⟨rfl, rfl, trivial⟩
   ·rintro _ w84 ⟨a86, n87, c88, a90, n91, c92, lay93, K82, rfl, hS85, hl83, hs89, hl94⟩
    refine qr ?_
    refine wl_val wn rfl (rv_fieldAddr ff42_1 rfl) ?_
    refine wl_val wn rfl (rv_loadm1 tf40 rfl (.tail _ (.head _)) hS85 rfl) ?_
    have hS312 : SH _ _ _ _ _ [_, _, _] := SH.front (p := [_, _]) hS85
    obtain ⟨K313, cs314, hl315, hrow316, hm317, hS318⟩ := seg_see hS312 hl94
    obtain ⟨x319, hx320, h321⟩ := ob h81
    refine wl_call wn rfl (rt_call (vs := [.slice a90 n91 c92, .func (.func 65) #[] #[]]) co64 rfl) (sort_rowI (T := tGEntry) sortLay64 sortNone64 rfl (fun w => Go.Fk.run_isAgg tf60 w) (fun w => Go.Fk.run_sizeOf tf60 w) (fun a b => M.impl_SegOf_1 F a b) 65 (Go.Proofs.enters_of Try.func65 (by kernel_rfl) rfl) hS318 hrow316 hm317 (fun K1 W v x u y r hW h1 h2 hm => by
     obtain ⟨a324, n325, c326, rfl, hl322, hl323, hs327⟩ := h1
     obtain ⟨a330, n331, c332, rfl, hl328, hl329, hs333⟩ := h2
     exact (ok_impl_SegOf_1 F (SH.start hW) hl322 hl323 hs327 hl328 hl329 hs333 hm).mono fun e w' ⟨K', he, hS', _⟩ => ⟨K', he, hS'⟩) hx320) ?_
    rintro e339 w335 ⟨cs334, rfl, hS338, hrow336, hm337⟩
    refine ⟨_, rfl, ?_⟩
    refine nr ?_
    refine wl_val wn rfl (rv_loadmS (ds := [.slice a86 n87 c88, .slice a90 n91 c92]) tf42 rfl (.tail _ (.tail _ (.head _))) hS338 rfl rfl) ?_
    have hS340 : SH _ _ _ _ _ [_, _, _] := SH.front (p := [_]) hS338
    refine wl_store (cs' := [.slice a86 n87 c88, .slice a90 n91 c92]) (v := .agg #[.slice a86 n87 c88, .slice a90 n91 c92]) wn tf42 rfl rfl rfl (by simp [Value.cells, Value.oneCell']) hS340 rfl rfl ?_
    intro w341 hS342
    refine nq ?_
    refine wc_ret ?_
    have hS343 : SH _ _ _ _ _ [_, _, _] := SH.front (p := [_]) hS342
    obtain ⟨K344, hl345, hs346, hS347⟩ := SH.freezeI hS343 hrow336 hm337
    obtain rfl := oi h321
    have hS348 : SH _ _ _ _ _ [_] := SH.sublist hS347 (.cons_cons _ (.cons _ (.cons _ .slnil)))
    exact qe_ret (vs := [_]) Try.results21 ⟨⟨_, _, rfl, run_loadVar_at tf42 (cs := [.slice a86 n87 c88, .slice a90 n91 c92]) (fun j c e => by rw [Nat.zero_add, hS347.mem_obj (.tail _ (.head _))]; exact e) (.inl ⟨rfl, rfl, rfl⟩)⟩, trivial⟩ ⟨a86, n87, c88, a90, n91, c92, K344, rfl, hS348, (SliceAt.mono (hl315.trans hl345) hs89), hs346⟩

set_option maxHeartbeats 2000000 in
theorem ok_laws_foDoc (F : Nat) {w : World} {K : KMap} {a2 : Option Addr} {n3 c4 : Nat} {a6 : Option Addr} {n7 c8 : Nat} {a11 : Option Addr} {n12 c13 : Nat} {a15 : Option Addr} {n16 c17 : Nat} {p0_a : GDoc} {p1_b : GDoc} {r : Bool} (hS : SH w K [] w K []) (hr1 : rng64 p0_a.Id) (hs5 : SliceAt tGField K a2 n3 c4 p0_a.Fields) (hs9 : SliceAt tGAttr K a6 n7 c8 p0_a.Nums) (hr10 : rng64 p1_b.Id) (hs14 : SliceAt tGField K a11 n12 c13 p1_b.Fields) (hs18 : SliceAt tGAttr K a15 n16 c17 p1_b.Nums) (hm : M.laws_foDoc F p0_a p1_b = some r) :
  Calls Try.prog 73 #[.agg #[.int .i64 p0_a.Id, .slice a2 n3 c4, .slice a6 n7 c8], .agg #[.int .i64 p1_b.Id, .slice a11 n12 c13, .slice a15 n16 c17]] w fun e w' => ∃ (K' : KMap), e = .returned (.bool r) ∧ SH w K [] w' K' [] := by
 rw [M.laws_foDoc] at hm
 refine calls_in Try.func73 rfl Try.ntmps73 rfl ?_
 refine sr ?_
 refine wl_box wn rfl rfl hS ?_
 intro g19 w20 hS21
 have hS22 : SH _ _ _ _ _ [obj g19 [.int .i64 p0_a.Id, .slice a2 n3 c4, .slice a6 n7 c8] 49] := hS21
 refine wl_box wn rfl rfl hS22 ?_
 intro g23 w24 hS25
 have hS26 : SH _ _ _ _ _ [obj g23 [.int .i64 p1_b.Id, .slice a11 n12 c13, .slice a15 n16 c17] 49, _] := hS25
 refine wl_val wn rfl (rv_assign (v := .bool false) rfl) ?_
 refine ns ?_
 refine wc_seq ?_
 obtain ⟨o27, h28, h29⟩ := ob hm
 refine wc_cutg (fun E' w' => ∃ (K30 : KMap), E' = [(2, .pointer (some ⟨g19, 0, none⟩)), (3, .pointer (some ⟨g23, 0, none⟩)), (29, .bool o27)] ∧ SH w K [] w' K30 [obj g19 [.int .i64 p0_a.Id, .slice a2 n3 c4, .slice a6 n7 c8] 49, obj g23 [.int .i64 p1_b.Id, .slice a11 n12 c13, .slice a15 n16 c17] 49] ∧ KLe K K30) ?_ ?_
 ·refine wc_region ?_
  refine wl_val wn rfl (rv_fieldAddr ff49_0 rfl) ?_
  refine wl_val wn rfl (rv_loadm1 tf3 rfl (.tail _ (.head _)) hS26 rfl) ?_
  refine wl_val wn rfl (rv_fieldAddr ff49_0 rfl) ?_
  refine wl_val wn rfl (rv_loadm1 tf3 rfl (.head _) hS26 rfl) ?_
  refine wl_val wn rfl (rv_neq rfl rfl) ?_
  refine vm rfl rfl ?_
  rcases bool_tf ((!(p0_a.Id == p1_b.Id))) with hb34 | hb34
  ·have h35 := cond_t hb34 h28
   refine wl_un (ug rfl rfl hb34) rfl ?_
   refine wl_un (ug rfl rfl hb34) rfl ?_
   refine wl_un (ug rfl rfl hb34) rfl ?_
   refine wl_un (ug rfl rfl hb34) rfl ?_
   refine wl_un (ug rfl rfl hb34) rfl ?_
   refine wl_un (ug rfl rfl hb34) rfl ?_
   refine wl_un (ug rfl rfl hb34) rfl ?_
   refine wl_val wn rfl (rv_pick_t (v := .bool true) rfl hb34 rfl) ?_
   refine vm rfl rfl ?_
   refine wl_un (ug rfl rfl rfl) rfl ?_
   refine wl_un (ug rfl rfl rfl) rfl ?_
   refine wl_un (ug rfl rfl rfl) rfl ?_
   refine wl_un (ug rfl rfl rfl) rfl ?_
   refine wl_un (ug rfl rfl rfl) rfl ?_
   refine wl_un (ug rfl rfl rfl) rfl ?_
   refine wl_un (ug rfl rfl rfl) rfl ?_
   refine wl_val wn rfl (rv_pick_t (v := .bool true) rfl rfl rfl) ?_
   refine wl_nil ?_
   obtain rfl := oi h35
   have hS36 : SH _ _ _ _ _ [_, _] := SH.front (p := [_]) hS26
   exact qe_mid' ⟨K, rfl, hS36, (KLe.refl _)⟩ ⟨rfl, rfl, rfl, trivial⟩
  ·have h35 := cond_f hb34 h28
   refine wl_val (wg rfl rfl hb34) rfl (rv_fieldAddr ff49_1 rfl) ?_
   refine wl_val (wg rfl rfl hb34) rfl (rv_loadm1 tf46 rfl (.tail _ (.head _)) hS26 rfl) ?_
   refine wl_val (wg rfl rfl hb34) rfl (rv_len (t := tGField) Try.underlying46 rfl hs5) ?_
   refine wl_val (wg rfl rfl hb34) rfl (rv_fieldAddr ff49_1 rfl) ?_
   refine wl_val (wg rfl rfl hb34) rfl (rv_loadm1 tf46 rfl (.head _) hS26 rfl) ?_
   refine wl_val (wg rfl rfl hb34) rfl (rv_len (t := tGField) Try.underlying46 rfl hs14) ?_
   refine wl_val (wg rfl rfl hb34) rfl (rv_neq rfl rfl) ?_
   refine wl_val wn rfl (rv_pick_f rfl hb34 rfl) ?_
   refine vm rfl rfl ?_
   rcases bool_tf ((!((p0_a.Fields.length : Int) == (p1_b.Fields.length : Int)))) with hb37 | hb37
   ·have h38 := cond_t hb37 h35
    refine wl_un (ug rfl rfl hb37) rfl ?_
    refine wl_un (ug rfl rfl hb37) rfl ?_
    refine wl_un (ug rfl rfl hb37) rfl ?_
    refine wl_un (ug rfl rfl hb37) rfl ?_
    refine wl_un (ug rfl rfl hb37) rfl ?_
    refine wl_un (ug rfl rfl hb37) rfl ?_
    refine wl_un (ug rfl rfl hb37) rfl ?_
    refine wl_val wn rfl (rv_pick_t (v := .bool true) rfl hb37 rfl) ?_
    refine wl_nil ?_
    obtain rfl := oi h38
    have hS39 : SH _ _ _ _ _ [_, _] := SH.front (p := [_]) hS26
    exact qe_mid' ⟨K, rfl, hS39, (KLe.refl _)⟩ ⟨rfl, rfl, rfl, trivial⟩
   ·have h38 := cond_f hb37 h35
    refine wl_val (wg rfl rfl hb37) rfl (rv_fieldAddr ff49_2 rfl) ?_
    refine wl_val (wg rfl rfl hb37) rfl (rv_loadm1 tf47 rfl (.tail _ (.head _)) hS26 rfl) ?_
    refine wl_val (wg rfl rfl hb37) rfl (rv_len (t := tGAttr) Try.underlying47 rfl hs9) ?_
    refine wl_val (wg rfl rfl hb37) rfl (rv_fieldAddr ff49_2 rfl) ?_
    refine wl_val (wg rfl rfl hb37) rfl (rv_loadm1 tf47 rfl (.head _) hS26 rfl) ?_
    refine wl_val (wg rfl rfl hb37) rfl (rv_len (t := tGAttr) Try.underlying47 rfl hs18) ?_
    refine wl_val (wg rfl rfl hb37) rfl (rv_neq rfl rfl) ?_
    refine wl_val wn rfl (rv_pick_f rfl hb37 rfl) ?_
    refine wl_nil ?_
    obtain rfl := oi h38
    have hS40 : SH _ _ _ _ _ [_, _] := SH.front (p := [_]) hS26
    exact qe_mid' ⟨K, rfl, hS40, (KLe.refl _)⟩ ⟨rfl, rfl, rfl, trivial⟩
 ·rintro _ w32 ⟨K30, rfl, hS33, hl31⟩
  refine qe_seq ?_
  refine wc_cond rfl (fun hb41 => ?_) (fun hb41 => ?_)
  ·have h42 := cond_t hb41 h29
   refine sr ?_
   refine wl_val wn rfl (rv_assign (v := .bool false) rfl) ?_
   refine nq ?_
   refine rr ?_
   obtain rfl := oi h42
   have hS43 : SH _ _ _ _ _ [] := SH.sublist hS33 (.cons _ (.cons _ .slnil))
   exact qe_ret (vs := [_]) Try.results73 ⟨rfl, trivial⟩ ⟨K30, rfl, hS43⟩
  ·have h42 := cond_f hb41 h29
   refine wc_skip ?_
   refine qs ?_
   refine sr ?_
   refine wl_val wn rfl (rv_assign (v := .int .i64 0) rfl) ?_
   refine nq ?_
   obtain ⟨o44, h45, h46⟩ := ob h42
   refine wc_cutg (fun E' w' => ∃ (s47 : Unit) (K48 : KMap), o44 = .inl s47 ∧ E' = [(2, .pointer (some ⟨g19, 0, none⟩)), (3, .pointer (some ⟨g23, 0, none⟩))] ∧ SH w K [] w' K48 [obj g19 [.int .i64 p0_a.Id, .slice a2 n3 c4, .slice a6 n7 c8] 49, obj g23 [.int .i64 p1_b.Id, .slice a11 n12 c13, .slice a15 n16 c17] 49] ∧ KLe K30 K48) ?_ ?_
   ·refine wc_block ?_
    obtain ⟨r53, h54, h55⟩ := ob h45
    refine wc_while' (fun (s52 : Int) E' w' => ∃ (K56 : KMap), E' = [(2, .pointer (some ⟨g19, 0, none⟩)), (3, .pointer (some ⟨g23, 0, none⟩)), (5, .int .i64 s52)] ∧ SH w K [] w' K56 [obj g19 [.int .i64 p0_a.Id, .slice a2 n3 c4, .slice a6 n7 c8] 49, obj g23 [.int .i64 p1_b.Id, .slice a11 n12 c13, .slice a15 n16 c17] 49] ∧ KLe K30 K56 ∧ rng64 s52) h54 ⟨K30, rfl, hS33, (KLe.refl _), (by decide : rng64 0)⟩ ⟨rfl, rfl, rfl, trivial⟩ ?_
    rintro s52 _ w58 r61 h62 hx63 ⟨K56, rfl, hS59, hl57, hr60⟩
    refine wc_seq ?_
    refine sr ?_
    refine vm rfl rfl ?_
    refine wl_val wn rfl (rv_fieldAddr ff49_1 rfl) ?_
    refine wl_val wn rfl (rv_loadm1 tf46 rfl (.head _) hS59 rfl) ?_
    refine wl_val wn rfl (rv_len (t := tGField) Try.underlying46 rfl (SliceAt.mono (hl31.trans hl57) hs5)) ?_
    refine wl_val wn rfl (rv_lss rfl rfl) ?_
    refine nq ?_
    refine wc_cond rfl (fun hb64 => ?_) (fun hb64 => ?_)
    ·have h65 := cond_t hb64 h62
     refine wc_skip ?_
     refine qs ?_
     refine wc_block ?_
     refine wc_seq ?_
     refine wc_quiet mixed (by kernel_rfl) hS59 ?_
     refine wq_val wn rfl (fun _ _ => (rv_fieldAddr ff49_1 rfl)) ?_
     refine wq_val wn rfl (rq_loadm1 tf46 rfl (.head _) rfl) ?_
     refine qm rfl rfl ?_
     obtain ⟨x66, hx67, h68⟩ := ob h65
     refine wq_indexAddr (t := tGField) wn rfl Try.underlying46 tf107 rfl rfl (SliceAt.mono (hl31.trans hl57) hs5) hx67 ?_
     intro b69 o70 u71 hu72 ha73
     obtain ⟨rfl, hl74, hl75⟩ := hu72
     have ha76 : AtK _ b69 o70 [sv x66.Name, sv x66.Text] := ha73
     refine wq_val wn rfl (rq_loadS (cs := [sv x66.Name, sv x66.Text]) tf107 rfl ha76 rfl) ?_
     refine wq_val wn rfl (fun _ _ => (rv_fieldAddr ff49_1 rfl)) ?_
     refine wq_val wn rfl (rq_loadm1 tf46 rfl (.tail _ (.head _)) rfl) ?_
     refine qm rfl rfl ?_
     obtain ⟨x77, hx78, h79⟩ := ob h68
     refine wq_indexAddr (t := tGField) wn rfl Try.underlying46 tf107 rfl rfl (SliceAt.mono (hl31.trans hl57) hs14) hx78 ?_
     intro b80 o81 u82 hu83 ha84
     obtain ⟨rfl, hl85, hl86⟩ := hu83
     have ha87 : AtK _ b80 o81 [sv x77.Name, sv x77.Text] := ha84
     refine wq_val wn rfl (rq_loadS (cs := [sv x77.Name, sv x77.Text]) tf107 rfl ha87 rfl) ?_
     refine wq_val wn rfl (fun _ _ => (rv_neS eqg107 rfl rfl (eqs107 x66.Name x66.Text x77.Name x77.Text))) ?_
     refine wq_nil ?_
     rintro w89 ⟨K88, hS90, hl91⟩
     refine qe_seq ?_
     refine wc_cond rfl (fun hb92 => ?_) (fun hb92 => ?_)
     ·have h93 := cond_t hb92 h79
      refine sr ?_
      refine wl_val wn rfl (rv_assign (v := .bool false) rfl) ?_
      refine nq ?_
      refine wc_ret ?_
      refine qe_block_ret ?_
      refine qe_then_ret ?_
      refine qe_then_ret ?_
      obtain rfl := oi h93
      have e94 := hx63 _ rfl
      subst e94
      refine qe_block_ret ?_
      refine qe_then_ret ?_
      obtain rfl := oi h55
      refine qe_then_ret ?_
      obtain rfl := oi h46
      have hS95 : SH _ _ _ _ _ [] := SH.sublist hS90 (.cons _ (.cons _ .slnil))
      exact qe_ret (vs := [_]) Try.results73 ⟨rfl, trivial⟩ ⟨K88, rfl, hS95⟩
     ·have h93 := cond_f hb92 h79
      refine wc_skip ?_
      refine qe_block ?_
      refine qe_seq ?_
      refine wc_region ?_
      refine vm rfl rfl ?_
      refine wl_val wn rfl (rv_add rfl rfl) ?_
      refine va rfl rfl ?_
      refine wl_nil ?_
      obtain rfl := oi h93
      exact qe_mid' ⟨_, rfl, K88, rfl, hS90, (hl57.trans hl91), (w64_rng _)⟩ ⟨rfl, rfl, rfl, trivial⟩
    ·have h65 := cond_f hb64 h62
     refine wc_exit ?_
     refine qe_then_exit ?_
     refine qe_then_exit ?_
     obtain rfl := oi h65
     have e96 := hx63 _ rfl
     subst e96
     refine qe_block_eq ?_
     obtain rfl := oi h55
     exact qe_mid' ⟨_, K56, rfl, rfl, hS59, hl57⟩ ⟨rfl, rfl, trivial⟩
   ·rintro _ w50 ⟨s47, K48, rfl, rfl, hS51, hl49⟩
    refine qs ?_
    refine sr ?_
    refine wl_val wn rfl (rv_assign (v := .int .i64 0) rfl) ?_
    refine nq ?_
    obtain ⟨o99, h100, h101⟩ := ob h46
    refine wc_cutg (fun E' w' => ∃ (s102 : Unit) (K103 : KMap), o99 = .inl s102 ∧ E' = [] ∧ SH w K [] w' K103 [] ∧ KLe K48 K103) ?_ ?_
    ·refine wc_block ?_
     obtain ⟨r108, h109, h110⟩ := ob h100
     refine wc_while' (fun (s107 : Int) E' w' => ∃ (K111 : KMap), E' = [(2, .pointer (some ⟨g19, 0, none⟩)), (3, .pointer (some ⟨g23, 0, none⟩)), (6, .int .i64 s107)] ∧ SH w K [] w' K111 [obj g19 [.int .i64 p0_a.Id, .slice a2 n3 c4, .slice a6 n7 c8] 49, obj g23 [.int .i64 p1_b.Id, .slice a11 n12 c13, .slice a15 n16 c17] 49] ∧ KLe K48 K111 ∧ rng64 s107) h109 ⟨K48, rfl, hS51, (KLe.refl _), (by decide : rng64 0)⟩ ⟨rfl, rfl, rfl, trivial⟩ ?_
     rintro s107 _ w113 r116 h117 hx118 ⟨K111, rfl, hS114, hl112, hr115⟩
     refine wc_seq ?_
     refine sr ?_
     refine vm rfl rfl ?_
     refine wl_val wn rfl (rv_fieldAddr ff49_2 rfl) ?_
     refine wl_val wn rfl (rv_loadm1 tf47 rfl (.head _) hS114 rfl) ?_
     refine wl_val wn rfl (rv_len (t := tGAttr) Try.underlying47 rfl (SliceAt.mono ((hl31.trans hl49).trans hl112) hs9)) ?_
     refine wl_val wn rfl (rv_lss rfl rfl) ?_
     refine nq ?_
     refine wc_cond rfl (fun hb119 => ?_) (fun hb119 => ?_)
     ·have h120 := cond_t hb119 h117
      refine wc_skip ?_
      refine qs ?_
      refine wc_block ?_
      refine wc_seq ?_
      refine wc_quiet mixed (by kernel_rfl) hS114 ?_
      refine wq_val wn rfl (fun _ _ => (rv_fieldAddr ff49_2 rfl)) ?_
      refine wq_val wn rfl (rq_loadm1 tf47 rfl (.head _) rfl) ?_
      refine qm rfl rfl ?_
      obtain ⟨x121, hx122, h123⟩ := ob h120
      refine wq_indexAddr (t := tGAttr) wn rfl Try.underlying47 tf133 rfl rfl (SliceAt.mono ((hl31.trans hl49).trans hl112) hs9) hx122 ?_
      intro b124 o125 u126 hu127 ha128
      obtain ⟨rfl, hl129, hr130⟩ := hu127
      have ha131 : AtK _ b124 o125 [sv x121.Name, .int .i64 x121.Num] := ha128
      refine wq_val wn rfl (rq_loadS (cs := [sv x121.Name, .int .i64 x121.Num]) tf133 rfl ha131 rfl) ?_
      refine wq_val wn rfl (fun _ _ => (rv_fieldAddr ff49_2 rfl)) ?_
      refine wq_val wn rfl (rq_loadm1 tf47 rfl (.tail _ (.head _)) rfl) ?_
      refine qm rfl rfl ?_
      obtain ⟨x132, hx133, h134⟩ := ob h123
      refine wq_indexAddr (t := tGAttr) wn rfl Try.underlying47 tf133 rfl rfl (SliceAt.mono ((hl31.trans hl49).trans hl112) hs18) hx133 ?_
      intro b135 o136 u137 hu138 ha139
      obtain ⟨rfl, hl140, hr141⟩ := hu138
      have ha142 : AtK _ b135 o136 [sv x132.Name, .int .i64 x132.Num] := ha139
      refine wq_val wn rfl (rq_loadS (cs := [sv x132.Name, .int .i64 x132.Num]) tf133 rfl ha142 rfl) ?_
      refine wq_val wn rfl (fun _ _ => (rv_neS eqg133 rfl rfl (eqs133 x121.Name x121.Num x132.Name x132.Num))) ?_
      refine wq_nil ?_
      rintro w144 ⟨K143, hS145, hl146⟩
      refine qe_seq ?_
      refine wc_cond rfl (fun hb147 => ?_) (fun hb147 => ?_)
      ·have h148 := cond_t hb147 h134
       refine sr ?_
       refine wl_val wn rfl (rv_assign (v := .bool false) rfl) ?_
       refine nq ?_
       refine wc_ret ?_
       refine qe_block_ret ?_
       refine qe_then_ret ?_
       refine qe_then_ret ?_
       obtain rfl := oi h148
       have e149 := hx118 _ rfl
       subst e149
       refine qe_block_ret ?_
       refine qe_then_ret ?_
       obtain rfl := oi h110
       refine qe_then_ret ?_
       obtain rfl := oi h101
       have hS150 : SH _ _ _ _ _ [] := SH.sublist hS145 (.cons _ (.cons _ .slnil))
       exact qe_ret (vs := [_]) Try.results73 ⟨rfl, trivial⟩ ⟨K143, rfl, hS150⟩
      ·have h148 := cond_f hb147 h134
       refine wc_skip ?_
       refine qe_block ?_
       refine qe_seq ?_
       refine wc_region ?_
       refine vm rfl rfl ?_
       refine wl_val wn rfl (rv_add rfl rfl) ?_
       refine va rfl rfl ?_
       refine wl_nil ?_
       obtain rfl := oi h148
       exact qe_mid' ⟨_, rfl, K143, rfl, hS145, (hl112.trans hl146), (w64_rng _)⟩ ⟨rfl, rfl, rfl, trivial⟩
     ·have h120 := cond_f hb119 h117
      refine wc_exit ?_
      refine qe_then_exit ?_
      refine qe_then_exit ?_
      obtain rfl := oi h120
      have e151 := hx118 _ rfl
      subst e151
      refine qe_block_eq ?_
      obtain rfl := oi h110
      have hS152 : SH _ _ _ _ _ [] := SH.sublist hS114 (.cons _ (.cons _ .slnil))
      exact qe_mid' ⟨_, K111, rfl, rfl, hS152, hl112⟩ trivial
    ·rintro _ w105 ⟨s102, K103, rfl, rfl, hS106, hl104⟩
     refine qr ?_
     refine wl_val wn rfl (rv_assign (v := .bool true) rfl) ?_
     refine nq ?_
     refine wc_ret ?_
     obtain rfl := oi h101
     exact qe_ret (vs := [_]) Try.results73 ⟨rfl, trivial⟩ ⟨K103, rfl, hS106⟩

theorem ok_laws_foDocs (F : Nat) {w : World} {K : KMap} {a1 : Option Addr} {n2 c3 : Nat} {a5 : Option Addr} {n6 c7 : Nat} {p0_a : List GDoc} {p1_b : List GDoc} {r : Bool} (hS : SH w K [] w K []) (hs4 : SliceAt tGDoc K a1 n2 c3 p0_a) (hs8 : SliceAt tGDoc K a5 n6 c7 p1_b) (hm : M.laws_foDocs F p0_a p1_b = some r) :
  Calls Try.prog 26 #[.slice a1 n2 c3, .slice a5 n6 c7] w fun e w' => ∃ (K' : KMap), e = .returned (.bool r) ∧ SH w K [] w' K' [] := by
 rw [M.laws_foDocs] at hm
 refine calls_in Try.func26 rfl Try.ntmps26 rfl ?_
 refine sr ?_
 refine wl_val wn rfl (rv_assign (v := .bool false) rfl) ?_
 refine nsr ?_
 refine vm rfl rfl ?_
 refine wl_val wn rfl (rv_len (t := tGDoc) Try.underlying23 rfl hs4) ?_
 refine vm rfl rfl ?_
 refine wl_val wn rfl (rv_len (t := tGDoc) Try.underlying23 rfl hs8) ?_
 refine wl_val wn rfl (rv_neq rfl rfl) ?_
 refine nq ?_
 refine wc_cond rfl (fun hb9 => ?_) (fun hb9 => ?_)
 ·have h10 := cond_t hb9 hm
  refine sr ?_
  refine wl_val wn rfl (rv_assign (v := .bool false) rfl) ?_
  refine nq ?_
  refine rr ?_
  obtain rfl := oi h10
  exact qe_ret (vs := [_]) Try.results26 ⟨rfl, trivial⟩ ⟨K, rfl, hS⟩
 ·have h10 := cond_f hb9 hm
  refine wc_skip ?_
  refine qs ?_
  refine sr ?_
  refine wl_val wn rfl (rv_assign (v := .int .i64 0) rfl) ?_
  refine nq ?_
  obtain ⟨o11, h12, h13⟩ := ob h10
  refine wc_cutg (fun E' w' => ∃ (s14 : Unit) (K15 : KMap), o11 = .inl s14 ∧ E' = [] ∧ SH w K [] w' K15 [] ∧ KLe K K15) ?_ ?_
  ·refine wc_block ?_
   obtain ⟨r20, h21, h22⟩ := ob h12
   refine wc_while' (fun (s19 : Int) E' w' => ∃ (K23 : KMap), E' = [(0, .slice a1 n2 c3), (1, .slice a5 n6 c7), (5, .int .i64 s19)] ∧ SH w K [] w' K23 [] ∧ KLe K K23 ∧ rng64 s19) h21 ⟨K, rfl, hS, (KLe.refl _), (by decide : rng64 0)⟩ ⟨rfl, rfl, rfl, trivial⟩ ?_
   rintro s19 _ w25 r28 h29 hx30 ⟨K23, rfl, hS26, hl24, hr27⟩
   refine wc_seq ?_
   refine sr ?_
   refine vm rfl rfl ?_
   refine vm rfl rfl ?_
   refine wl_val wn rfl (rv_len (t := tGDoc) Try.underlying23 rfl (SliceAt.mono hl24 hs4)) ?_
   refine wl_val wn rfl (rv_lss rfl rfl) ?_
   refine nq ?_
   refine wc_cond rfl (fun hb31 => ?_) (fun hb31 => ?_)
   ·have h32 := cond_t hb31 h29
    refine wc_skip ?_
    refine qs ?_
    refine wc_block ?_
    refine wc_seq ?_
    refine wc_quiet mixed (by kernel_rfl) hS26 ?_
    refine qm rfl rfl ?_
    refine qm rfl rfl ?_
    obtain ⟨x33, hx34, h35⟩ := ob h32
    refine wq_indexAddr (t := tGDoc) wn rfl Try.underlying23 tf49 rfl rfl (SliceAt.mono hl24 hs4) hx34 ?_
    intro b36 o37 u38 hu39 ha40
    obtain ⟨a42, n43, c44, a46, n47, c48, rfl, hr41, hs45, hs49⟩ := hu39
    have ha50 : AtK _ b36 o37 [.int .i64 x33.Id, .slice a42 n43 c44, .slice a46 n47 c48] := ha40
    refine wq_val wn rfl (rq_loadS (cs := [.int .i64 x33.Id, .slice a42 n43 c44, .slice a46 n47 c48]) tf49 rfl ha50 rfl) ?_
    refine qm rfl rfl ?_
    refine qm rfl rfl ?_
    obtain ⟨x51, hx52, h53⟩ := ob h35
    refine wq_indexAddr (t := tGDoc) wn rfl Try.underlying23 tf49 rfl rfl (SliceAt.mono hl24 hs8) hx52 ?_
    intro b54 o55 u56 hu57 ha58
    obtain ⟨a60, n61, c62, a64, n65, c66, rfl, hr59, hs63, hs67⟩ := hu57
    have ha68 : AtK _ b54 o55 [.int .i64 x51.Id, .slice a60 n61 c62, .slice a64 n65 c66] := ha58
    refine wq_val wn rfl (rq_loadS (cs := [.int .i64 x51.Id, .slice a60 n61 c62, .slice a64 n65 c66]) tf49 rfl ha68 rfl) ?_
    obtain ⟨r69, hx70, h71⟩ := ob h53
    refine wq_call (v := .bool r69) wn rfl (fun _ => rt_call (vs := [.agg #[.int .i64 x33.Id, .slice a42 n43 c44, .slice a46 n47 c48], .agg #[.int .i64 x51.Id, .slice a60 n61 c62, .slice a64 n65 c66]]) co73 rfl) (fun w74 ⟨K72, hS73, hl75⟩ => ((ok_laws_foDoc F) hS73.enter0 hr41 (SliceAt.mono hl75 hs45) (SliceAt.mono hl75 hs49) hr59 (SliceAt.mono hl75 hs63) (SliceAt.mono hl75 hs67) hx70).mono fun e w' ⟨K', he, hS'⟩ => ⟨he, K', hS73.call0 hS', hl75.trans hS'.le⟩) ?_
    refine wq_val wn rfl (fun _ _ => (rv_not rfl)) ?_
    refine wq_nil ?_
    rintro w77 ⟨K76, hS78, hl79⟩
    refine qe_seq ?_
    refine wc_cond rfl (fun hb80 => ?_) (fun hb80 => ?_)
    ·have h81 := cond_t hb80 h71
     refine sr ?_
     refine wl_val wn rfl (rv_assign (v := .bool false) rfl) ?_
     refine nq ?_
     refine wc_ret ?_
     refine qe_block_ret ?_
     refine qe_then_ret ?_
     refine qe_then_ret ?_
     obtain rfl := oi h81
     have e82 := hx30 _ rfl
     subst e82
     refine qe_block_ret ?_
     refine qe_then_ret ?_
     obtain rfl := oi h22
     refine qe_then_ret ?_
     obtain rfl := oi h13
     exact qe_ret (vs := [_]) Try.results26 ⟨rfl, trivial⟩ ⟨K76, rfl, hS78⟩
    ·have h81 := cond_f hb80 h71
     refine wc_skip ?_
     refine qe_block ?_
     refine qe_seq ?_
     refine wc_region ?_
     refine vm rfl rfl ?_
     refine wl_val wn rfl (rv_add rfl rfl) ?_
     refine va rfl rfl ?_
     refine wl_nil ?_
     obtain rfl := oi h81
     exact qe_mid' ⟨_, rfl, K76, rfl, hS78, (hl24.trans hl79), (w64_rng _)⟩ ⟨rfl, rfl, rfl, trivial⟩
   ·have h32 := cond_f hb31 h29
    refine wc_exit ?_
    refine qe_then_exit ?_
    refine qe_then_exit ?_
    obtain rfl := oi h32
    have e83 := hx30 _ rfl
    subst e83
    refine qe_block_eq ?_
    obtain rfl := oi h22
    exact qe_mid' ⟨_, K23, rfl, rfl, hS26, hl24⟩ trivial
  ·rintro _ w17 ⟨s14, K15, rfl, rfl, hS18, hl16⟩
   refine qr ?_
   refine wl_val wn rfl (rv_assign (v := .bool true) rfl) ?_
   refine nq ?_
   refine wc_ret ?_
   obtain rfl := oi h13
   exact qe_ret (vs := [_]) Try.results26 ⟨rfl, trivial⟩ ⟨K15, rfl, hS18⟩

theorem ok_laws_foInts (F : Nat) {w : World} {K : KMap} {a1 : Option Addr} {n2 c3 : Nat} {a5 : Option Addr} {n6 c7 : Nat} {p0_a : List Int} {p1_b : List Int} {r : Bool} (hS : SH w K [] w K []) (hs4 : SliceAt tInt K a1 n2 c3 p0_a) (hs8 : SliceAt tInt K a5 n6 c7 p1_b) (hm : M.laws_foInts F p0_a p1_b = some r) :
  Calls Try.prog 74 #[.slice a1 n2 c3, .slice a5 n6 c7] w fun e w' => ∃ (K' : KMap), e = .returned (.bool r) ∧ SH w K [] w' K' [] := by
 rw [M.laws_foInts] at hm
 refine calls_in Try.func74 rfl Try.ntmps74 rfl ?_
 refine sr ?_
 refine wl_val wn rfl (rv_assign (v := .bool false) rfl) ?_
 refine nsr ?_
 refine vm rfl rfl ?_
 refine wl_val wn rfl (rv_len (t := tInt) Try.underlying24 rfl hs4) ?_
 refine vm rfl rfl ?_
 refine wl_val wn rfl (rv_len (t := tInt) Try.underlying24 rfl hs8) ?_
 refine wl_val wn rfl (rv_neq rfl rfl) ?_
 refine nq ?_
 refine wc_cond rfl (fun hb9 => ?_) (fun hb9 => ?_)
 ·have h10 := cond_t hb9 hm
  refine sr ?_
  refine wl_val wn rfl (rv_assign (v := .bool false) rfl) ?_
  refine nq ?_
  refine rr ?_
  obtain rfl := oi h10
  exact qe_ret (vs := [_]) Try.results74 ⟨rfl, trivial⟩ ⟨K, rfl, hS⟩
 ·have h10 := cond_f hb9 hm
  refine wc_skip ?_
  refine qs ?_
  refine sr ?_
  refine wl_val wn rfl (rv_assign (v := .int .i64 0) rfl) ?_
  refine nq ?_
  obtain ⟨o11, h12, h13⟩ := ob h10
  refine wc_cutg (fun E' w' => ∃ (s14 : Unit) (K15 : KMap), o11 = .inl s14 ∧ E' = [] ∧ SH w K [] w' K15 [] ∧ KLe K K15) ?_ ?_
  ·refine wc_block ?_
   obtain ⟨r20, h21, h22⟩ := ob h12
   refine wc_while' (fun (s19 : Int) E' w' => ∃ (K23 : KMap), E' = [(0, .slice a1 n2 c3), (1, .slice a5 n6 c7), (5, .int .i64 s19)] ∧ SH w K [] w' K23 [] ∧ KLe K K23 ∧ rng64 s19) h21 ⟨K, rfl, hS, (KLe.refl _), (by decide : rng64 0)⟩ ⟨rfl, rfl, rfl, trivial⟩ ?_
   rintro s19 _ w25 r28 h29 hx30 ⟨K23, rfl, hS26, hl24, hr27⟩
   refine wc_seq ?_
   refine sr ?_
   refine vm rfl rfl ?_
   refine vm rfl rfl ?_
   refine wl_val wn rfl (rv_len (t := tInt) Try.underlying24 rfl (SliceAt.mono hl24 hs4)) ?_
   refine wl_val wn rfl (rv_lss rfl rfl) ?_
   refine nq ?_
   refine wc_cond rfl (fun hb31 => ?_) (fun hb31 => ?_)
   ·have h32 := cond_t hb31 h29
    refine wc_skip ?_
    refine qs ?_
    refine wc_block ?_
    refine wc_seq ?_
    refine wc_quiet mixed (by kernel_rfl) hS26 ?_
    refine qm rfl rfl ?_
    refine qm rfl rfl ?_
    obtain ⟨x33, hx34, h35⟩ := ob h32
    refine wq_indexAddr (t := tInt) wn rfl Try.underlying24 tf3 rfl rfl (SliceAt.mono hl24 hs4) hx34 ?_
    intro b36 o37 u38 hu39 ha40
    obtain ⟨rfl, hr41⟩ := hu39
    have ha42 : AtK _ b36 o37 [.int .i64 x33] := ha40
    refine wq_val wn rfl (rq_load1 tf3 rfl (ha42 0 _ rfl)) ?_
    refine qm rfl rfl ?_
    refine qm rfl rfl ?_
    obtain ⟨x43, hx44, h45⟩ := ob h35
    refine wq_indexAddr (t := tInt) wn rfl Try.underlying24 tf3 rfl rfl (SliceAt.mono hl24 hs8) hx44 ?_
    intro b46 o47 u48 hu49 ha50
    obtain ⟨rfl, hr51⟩ := hu49
    have ha52 : AtK _ b46 o47 [.int .i64 x43] := ha50
    refine wq_val wn rfl (rq_load1 tf3 rfl (ha52 0 _ rfl)) ?_
    refine wq_val wn rfl (fun _ _ => (rv_neq rfl rfl)) ?_
    refine wq_nil ?_
    rintro w54 ⟨K53, hS55, hl56⟩
    refine qe_seq ?_
    refine wc_cond rfl (fun hb57 => ?_) (fun hb57 => ?_)
    ·have h58 := cond_t hb57 h45
     refine sr ?_
     refine wl_val wn rfl (rv_assign (v := .bool false) rfl) ?_
     refine nq ?_
     refine wc_ret ?_
     refine qe_block_ret ?_
     refine qe_then_ret ?_
     refine qe_then_ret ?_
     obtain rfl := oi h58
     have e59 := hx30 _ rfl
     subst e59
     refine qe_block_ret ?_
     refine qe_then_ret ?_
     obtain rfl := oi h22
     refine qe_then_ret ?_
     obtain rfl := oi h13
     exact qe_ret (vs := [_]) Try.results74 ⟨rfl, trivial⟩ ⟨K53, rfl, hS55⟩
    ·have h58 := cond_f hb57 h45
     refine wc_skip ?_
     refine qe_block ?_
     refine qe_seq ?_
     refine wc_region ?_
     refine vm rfl rfl ?_
     refine wl_val wn rfl (rv_add rfl rfl) ?_
     refine va rfl rfl ?_
     refine wl_nil ?_
     obtain rfl := oi h58
     exact qe_mid' ⟨_, rfl, K53, rfl, hS55, (hl24.trans hl56), (w64_rng _)⟩ ⟨rfl, rfl, rfl, trivial⟩
   ·have h32 := cond_f hb31 h29
    refine wc_exit ?_
    refine qe_then_exit ?_
    refine qe_then_exit ?_
    obtain rfl := oi h32
    have e60 := hx30 _ rfl
    subst e60
    refine qe_block_eq ?_
    obtain rfl := oi h22
    exact qe_mid' ⟨_, K23, rfl, rfl, hS26, hl24⟩ trivial
  ·rintro _ w17 ⟨s14, K15, rfl, rfl, hS18, hl16⟩
   refine qr ?_
   refine wl_val wn rfl (rv_assign (v := .bool true) rfl) ?_
   refine nq ?_
   refine wc_ret ?_
   obtain rfl := oi h13
   exact qe_ret (vs := [_]) Try.results74 ⟨rfl, trivial⟩ ⟨K15, rfl, hS18⟩

set_option maxHeartbeats 2000000 in
theorem ok_laws_foPosts (F : Nat) {w : World} {K : KMap} {a1 : Option Addr} {n2 c3 : Nat} {a5 : Option Addr} {n6 c7 : Nat} {p0_a : List GPost} {p1_b : List GPost} {r : Bool} (hS : SH w K [] w K []) (hs4 : SliceAt tGPost K a1 n2 c3 p0_a) (hs8 : SliceAt tGPost K a5 n6 c7 p1_b) (hm : M.laws_foPosts F p0_a p1_b = some r) :
  Calls Try.prog 27 #[.slice a1 n2 c3, .slice a5 n6 c7] w fun e w' => ∃ (K' : KMap), e = .returned (.bool r) ∧ SH w K [] w' K' [] := by
 rw [M.laws_foPosts] at hm
 refine calls_in Try.func27 rfl Try.ntmps27 rfl ?_
 refine sr ?_
 refine wl_val wn rfl (rv_assign (v := .bool false) rfl) ?_
 refine nsr ?_
 refine vm rfl rfl ?_
 refine wl_val wn rfl (rv_len (t := tGPost) Try.underlying58 rfl hs4) ?_
 refine vm rfl rfl ?_
 refine wl_val wn rfl (rv_len (t := tGPost) Try.underlying58 rfl hs8) ?_
 refine wl_val wn rfl (rv_neq rfl rfl) ?_
 refine nq ?_
 refine wc_cond rfl (fun hb9 => ?_) (fun hb9 => ?_)
 ·have h10 := cond_t hb9 hm
  refine sr ?_
  refine wl_val wn rfl (rv_assign (v := .bool false) rfl) ?_
  refine nq ?_
  refine rr ?_
  obtain rfl := oi h10
  exact qe_ret (vs := [_]) Try.results27 ⟨rfl, trivial⟩ ⟨K, rfl, hS⟩
 ·have h10 := cond_f hb9 hm
  refine wc_skip ?_
  refine qs ?_
  refine sr ?_
  refine wl_val wn rfl (rv_assign (v := .int .i64 0) rfl) ?_
  refine nq ?_
  obtain ⟨o11, h12, h13⟩ := ob h10
  refine wc_cutg (fun E' w' => ∃ (s14 : Unit) (K15 : KMap), o11 = .inl s14 ∧ E' = [] ∧ SH w K [] w' K15 [] ∧ KLe K K15) ?_ ?_
  ·refine wc_block ?_
   obtain ⟨r20, h21, h22⟩ := ob h12
   refine wc_while' (fun (s19 : Int) E' w' => ∃ (K23 : KMap), E' = [(0, .slice a1 n2 c3), (1, .slice a5 n6 c7), (5, .int .i64 s19)] ∧ SH w K [] w' K23 [] ∧ KLe K K23 ∧ rng64 s19) h21 ⟨K, rfl, hS, (KLe.refl _), (by decide : rng64 0)⟩ ⟨rfl, rfl, rfl, trivial⟩ ?_
   rintro s19 _ w25 r28 h29 hx30 ⟨K23, rfl, hS26, hl24, hr27⟩
   refine wc_seq ?_
   refine sr ?_
   refine vm rfl rfl ?_
   refine vm rfl rfl ?_
   refine wl_val wn rfl (rv_len (t := tGPost) Try.underlying58 rfl (SliceAt.mono hl24 hs4)) ?_
   refine wl_val wn rfl (rv_lss rfl rfl) ?_
   refine nq ?_
   refine wc_cond rfl (fun hb31 => ?_) (fun hb31 => ?_)
   ·have h32 := cond_t hb31 h29
    refine wc_skip ?_
    refine qs ?_
    refine wc_block ?_
    refine wc_seq ?_
    obtain ⟨o33, h34, h35⟩ := ob h32
    refine wc_cutg (fun E' w' => ∃ (K36 : KMap), E' = [(0, .slice a1 n2 c3), (1, .slice a5 n6 c7), (5, .int .i64 s19), (41, .bool o33)] ∧ SH w K [] w' K36 [] ∧ KLe K23 K36) ?_ ?_
    ·refine wc_quiet mixed (by kernel_rfl) hS26 ?_
     refine qm rfl rfl ?_
     refine qm rfl rfl ?_
     obtain ⟨x40, hx41, h42⟩ := ob h34
     refine wq_indexAddr (t := tGPost) wn rfl Try.underlying58 tf64 rfl rfl (SliceAt.mono hl24 hs4) hx41 ?_
     intro b43 o44 u45 hu46 ha47
     obtain ⟨a49, n50, c51, rfl, hr48, hs52⟩ := hu46
     have ha53 : AtK _ b43 o44 [.int .i64 x40.Doc, .slice a49 n50 c51] := ha47
     refine wq_val wn rfl (fun _ _ => (rv_fieldAddr ff64_0 rfl)) ?_
     refine wq_val wn rfl (rq_load1 tf3 rfl (ha53 0 _ rfl)) ?_
     refine qm rfl rfl ?_
     refine qm rfl rfl ?_
     obtain ⟨x54, hx55, h56⟩ := ob h42
     refine wq_indexAddr (t := tGPost) wn rfl Try.underlying58 tf64 rfl rfl (SliceAt.mono hl24 hs8) hx55 ?_
     intro b57 o58 u59 hu60 ha61
     obtain ⟨a63, n64, c65, rfl, hr62, hs66⟩ := hu60
     have ha67 : AtK _ b57 o58 [.int .i64 x54.Doc, .slice a63 n64 c65] := ha61
     refine wq_val wn rfl (fun _ _ => (rv_fieldAddr ff64_0 rfl)) ?_
     refine wq_val wn rfl (rq_load1 tf3 rfl (ha67 0 _ rfl)) ?_
     refine wq_val wn rfl (fun _ _ => (rv_neq rfl rfl)) ?_
     refine qm rfl rfl ?_
     rcases bool_tf ((!(x40.Doc == x54.Doc))) with hb68 | hb68
     ·have h69 := cond_t hb68 h56
      refine wq_un (ug rfl rfl hb68) rfl ?_
      refine wq_un (ug rfl rfl hb68) rfl ?_
      refine wq_un (ug rfl rfl hb68) rfl ?_
      refine wq_un (ug rfl rfl hb68) rfl ?_
      refine wq_un (ug rfl rfl hb68) rfl ?_
      refine wq_un (ug rfl rfl hb68) rfl ?_
      refine wq_un (ug rfl rfl hb68) rfl ?_
      refine wq_un (ug rfl rfl hb68) rfl ?_
      refine wq_un (ug rfl rfl hb68) rfl ?_
      refine wq_un (ug rfl rfl hb68) rfl ?_
      refine wq_un (ug rfl rfl hb68) rfl ?_
      refine wq_un (ug rfl rfl hb68) rfl ?_
      refine wq_val wn rfl (fun _ _ => (rv_pick_t (v := .bool true) rfl hb68 rfl)) ?_
      refine wq_nil ?_
      rintro w71 ⟨K70, hS72, hl73⟩
      obtain rfl := oi h69
      exact qe_mid' ⟨K70, rfl, hS72, hl73⟩ ⟨rfl, rfl, rfl, rfl, trivial⟩
     ·have h69 := cond_f hb68 h56
      refine wq_val (wg rfl rfl hb68) rfl (fun _ _ => (rv_move rfl)) ?_
      refine wq_val (wg rfl rfl hb68) rfl (fun _ _ => (rv_move rfl)) ?_
      obtain ⟨x74, hx75, h76⟩ := ob h69
      refine wq_indexAddr (t := tGPost) (wg rfl rfl hb68) rfl Try.underlying58 tf64 rfl rfl (SliceAt.mono hl24 hs4) hx75 ?_
      intro b77 o78 u79 hu80 ha81
      obtain ⟨a83, n84, c85, rfl, hr82, hs86⟩ := hu80
      have ha87 : AtK _ b77 o78 [.int .i64 x74.Doc, .slice a83 n84 c85] := ha81
      refine wq_val (wg rfl rfl hb68) rfl (fun _ _ => (rv_fieldAddr ff64_1 rfl)) ?_
      refine wq_val (wg rfl rfl hb68) rfl (rq_load1 tf24 rfl (ha87 1 _ rfl)) ?_
      refine wq_val (wg rfl rfl hb68) rfl (fun _ _ => (rv_move rfl)) ?_
      refine wq_val (wg rfl rfl hb68) rfl (fun _ _ => (rv_move rfl)) ?_
      obtain ⟨x88, hx89, h90⟩ := ob h76
      refine wq_indexAddr (t := tGPost) (wg rfl rfl hb68) rfl Try.underlying58 tf64 rfl rfl (SliceAt.mono hl24 hs8) hx89 ?_
      intro b91 o92 u93 hu94 ha95
      obtain ⟨a97, n98, c99, rfl, hr96, hs100⟩ := hu94
      have ha101 : AtK _ b91 o92 [.int .i64 x88.Doc, .slice a97 n98 c99] := ha95
      refine wq_val (wg rfl rfl hb68) rfl (fun _ _ => (rv_fieldAddr ff64_1 rfl)) ?_
      refine wq_val (wg rfl rfl hb68) rfl (rq_load1 tf24 rfl (ha101 1 _ rfl)) ?_
      obtain ⟨r102, hx103, h104⟩ := ob h90
      refine wq_call (v := .bool r102) (wg rfl rfl hb68) rfl (fun _ => rt_call (vs := [.slice a83 n84 c85, .slice a97 n98 c99]) co74 rfl) (fun w107 ⟨K105, hS106, hl108⟩ => ((ok_laws_foInts F) hS106.enter0 (SliceAt.mono hl108 hs86) (SliceAt.mono hl108 hs100) hx103).mono fun e w' ⟨K', he, hS'⟩ => ⟨he, K', hS106.call0 hS', hl108.trans hS'.le⟩) ?_
      refine wq_val (wg rfl rfl hb68) rfl (fun _ _ => (rv_not rfl)) ?_
      refine wq_val wn rfl (fun _ _ => (rv_pick_f rfl hb68 rfl)) ?_
      refine wq_nil ?_
      rintro w110 ⟨K109, hS111, hl112⟩
      obtain rfl := oi h104
      exact qe_mid' ⟨K109, rfl, hS111, hl112⟩ ⟨rfl, rfl, rfl, rfl, trivial⟩
    ·rintro _ w38 ⟨K36, rfl, hS39, hl37⟩
     refine qe_seq ?_
     refine wc_cond rfl (fun hb113 => ?_) (fun hb113 => ?_)
     ·have h114 := cond_t hb113 h35
      refine sr ?_
      refine wl_val wn rfl (rv_assign (v := .bool false) rfl) ?_
      refine nq ?_
      refine wc_ret ?_
      refine qe_block_ret ?_
      refine qe_then_ret ?_
      refine qe_then_ret ?_
      obtain rfl := oi h114
      have e115 := hx30 _ rfl
      subst e115
      refine qe_block_ret ?_
      refine qe_then_ret ?_
      obtain rfl := oi h22
      refine qe_then_ret ?_
      obtain rfl := oi h13
      exact qe_ret (vs := [_]) Try.results27 ⟨rfl, trivial⟩ ⟨K36, rfl, hS39⟩
     ·have h114 := cond_f hb113 h35
      refine wc_skip ?_
      refine qe_block ?_
      refine qe_seq ?_
      refine wc_region ?_
      refine vm rfl rfl ?_
      refine wl_val wn rfl (rv_add rfl rfl) ?_
      refine va rfl rfl ?_
      refine wl_nil ?_
      obtain rfl := oi h114
      exact qe_mid' ⟨_, rfl, K36, rfl, hS39, (hl24.trans hl37), (w64_rng _)⟩ ⟨rfl, rfl, rfl, trivial⟩
   ·have h32 := cond_f hb31 h29
    refine wc_exit ?_
    refine qe_then_exit ?_
    refine qe_then_exit ?_
    obtain rfl := oi h32
    have e116 := hx30 _ rfl
    subst e116
    refine qe_block_eq ?_
    obtain rfl := oi h22
    exact qe_mid' ⟨_, K23, rfl, rfl, hS26, hl24⟩ trivial
  ·rintro _ w17 ⟨s14, K15, rfl, rfl, hS18, hl16⟩
   refine qr ?_
   refine wl_val wn rfl (rv_assign (v := .bool true) rfl) ?_
   refine nq ?_
   refine wc_ret ?_
   obtain rfl := oi h13
   exact qe_ret (vs := [_]) Try.results27 ⟨rfl, trivial⟩ ⟨K15, rfl, hS18⟩

set_option maxHeartbeats 2000000 in
theorem ok_laws_foSeg (F : Nat) {w : World} {K : KMap} {a1 : Option Addr} {n2 c3 : Nat} {a5 : Option Addr} {n6 c7 : Nat} {a9 : Option Addr} {n10 c11 : Nat} {a13 : Option Addr} {n14 c15 : Nat} {p0_a : GSeg} {p1_b : GSeg} {r : Bool} (hS : SH w K [] w K []) (hs4 : SliceAt tGDoc K a1 n2 c3 p0_a.Docs) (hs8 : SliceAt tGEntry K a5 n6 c7 p0_a.Entries) (hs12 : SliceAt tGDoc K a9 n10 c11 p1_b.Docs) (hs16 : SliceAt tGEntry K a13 n14 c15 p1_b.Entries) (hm : M.laws_foSeg F p0_a p1_b = some r) :
  Calls Try.prog 22 #[.agg #[.slice a1 n2 c3, .slice a5 n6 c7], .agg #[.slice a9 n10 c11, .slice a13 n14 c15]] w fun e w' => ∃ (K' : KMap), e = .returned (.bool r) ∧ SH w K [] w' K' [] := by
 rw [M.laws_foSeg] at hm
 refine calls_in Try.func22 rfl Try.ntmps22 rfl ?_
 refine sr ?_
 refine wl_box wn rfl rfl hS ?_
 intro g17 w18 hS19
 have hS20 : SH _ _ _ _ _ [obj g17 [.slice a1 n2 c3, .slice a5 n6 c7] 42] := hS19
 refine wl_box wn rfl rfl hS20 ?_
 intro g21 w22 hS23
 have hS24 : SH _ _ _ _ _ [obj g21 [.slice a9 n10 c11, .slice a13 n14 c15] 42, _] := hS23
 refine wl_val wn rfl (rv_assign (v := .bool false) rfl) ?_
 refine ns ?_
 refine wc_seq ?_
 obtain ⟨o25, h26, h27⟩ := ob hm
 refine wc_cutg (fun E' w' => ∃ (K28 : KMap), E' = [(2, .pointer (some ⟨g17, 0, none⟩)), (3, .pointer (some ⟨g21, 0, none⟩)), (20, .bool o25)] ∧ SH w K [] w' K28 [obj g17 [.slice a1 n2 c3, .slice a5 n6 c7] 42, obj g21 [.slice a9 n10 c11, .slice a13 n14 c15] 42] ∧ KLe K K28) ?_ ?_
 ·refine wc_region ?_
  refine wl_val wn rfl (rv_fieldAddr ff42_0 rfl) ?_
  refine wl_val wn rfl (rv_loadm1 tf23 rfl (.tail _ (.head _)) hS24 rfl) ?_
  refine wl_val wn rfl (rv_fieldAddr ff42_0 rfl) ?_
  refine wl_val wn rfl (rv_loadm1 tf23 rfl (.head _) hS24 rfl) ?_
  obtain ⟨r32, hx33, h34⟩ := ob h26
  refine wl_call wn rfl (rt_call (vs := [.slice a1 n2 c3, .slice a9 n10 c11]) co26 rfl) ((ok_laws_foDocs F) hS24.enter0 hs4 hs12 hx33) ?_
  rintro e38 w36 ⟨K35, rfl, hS37⟩
  refine ⟨_, rfl, ?_⟩
  have hS39 : SH _ _ _ _ _ [_, _] := SH.call0 hS24 hS37
  refine wl_val wn rfl (rv_not rfl) ?_
  refine vm rfl rfl ?_
  rcases bool_tf ((!r32)) with hb40 | hb40
  ·have h41 := cond_t hb40 h34
   refine wl_un (ug rfl rfl hb40) rfl ?_
   refine wl_un (ug rfl rfl hb40) rfl ?_
   refine wl_un (ug rfl rfl hb40) rfl ?_
   refine wl_un (ug rfl rfl hb40) rfl ?_
   refine wl_un (ug rfl rfl hb40) rfl ?_
   refine wl_un (ug rfl rfl hb40) rfl ?_
   refine wl_un (ug rfl rfl hb40) rfl ?_
   refine wl_val wn rfl (rv_pick_t (v := .bool true) rfl hb40 rfl) ?_
   refine wl_nil ?_
   obtain rfl := oi h41
   have hS42 : SH _ _ _ _ _ [_, _] := SH.front (p := [_]) hS39
   exact qe_mid' ⟨K35, rfl, hS42, hS37.le⟩ ⟨rfl, rfl, rfl, trivial⟩
  ·have h41 := cond_f hb40 h34
   refine wl_val (wg rfl rfl hb40) rfl (rv_fieldAddr ff42_1 rfl) ?_
   refine wl_val (wg rfl rfl hb40) rfl (rv_loadm1 tf40 rfl (.tail _ (.head _)) hS39 rfl) ?_
   refine wl_val (wg rfl rfl hb40) rfl (rv_len (t := tGEntry) Try.underlying40 rfl (SliceAt.mono hS37.le hs8)) ?_
   refine wl_val (wg rfl rfl hb40) rfl (rv_fieldAddr ff42_1 rfl) ?_
   refine wl_val (wg rfl rfl hb40) rfl (rv_loadm1 tf40 rfl (.head _) hS39 rfl) ?_
   refine wl_val (wg rfl rfl hb40) rfl (rv_len (t := tGEntry) Try.underlying40 rfl (SliceAt.mono hS37.le hs16)) ?_
   refine wl_val (wg rfl rfl hb40) rfl (rv_neq rfl rfl) ?_
   refine wl_val wn rfl (rv_pick_f rfl hb40 rfl) ?_
   refine wl_nil ?_
   obtain rfl := oi h41
   have hS43 : SH _ _ _ _ _ [_, _] := SH.front (p := [_]) hS39
   exact qe_mid' ⟨K35, rfl, hS43, hS37.le⟩ ⟨rfl, rfl, rfl, trivial⟩
 ·rintro _ w30 ⟨K28, rfl, hS31, hl29⟩
  refine qe_seq ?_
  refine wc_cond rfl (fun hb44 => ?_) (fun hb44 => ?_)
  ·have h45 := cond_t hb44 h27
   refine sr ?_
   refine wl_val wn rfl (rv_assign (v := .bool false) rfl) ?_
   refine nq ?_
   refine rr ?_
   obtain rfl := oi h45
   have hS46 : SH _ _ _ _ _ [] := SH.sublist hS31 (.cons _ (.cons _ .slnil))
   exact qe_ret (vs := [_]) Try.results22 ⟨rfl, trivial⟩ ⟨K28, rfl, hS46⟩
  ·have h45 := cond_f hb44 h27
   refine wc_skip ?_
   refine qs ?_
   refine sr ?_
   refine wl_val wn rfl (rv_assign (v := .int .i64 0) rfl) ?_
   refine nq ?_
   obtain ⟨o47, h48, h49⟩ := ob h45
   refine wc_cutg (fun E' w' => ∃ (s50 : Unit) (K51 : KMap), o47 = .inl s50 ∧ E' = [] ∧ SH w K [] w' K51 [] ∧ KLe K28 K51) ?_ ?_
   ·refine wc_block ?_
    obtain ⟨r56, h57, h58⟩ := ob h48
    refine wc_while' (fun (s55 : Int) E' w' => ∃ (K59 : KMap), E' = [(2, .pointer (some ⟨g17, 0, none⟩)), (3, .pointer (some ⟨g21, 0, none⟩)), (5, .int .i64 s55)] ∧ SH w K [] w' K59 [obj g17 [.slice a1 n2 c3, .slice a5 n6 c7] 42, obj g21 [.slice a9 n10 c11, .slice a13 n14 c15] 42] ∧ KLe K28 K59 ∧ rng64 s55) h57 ⟨K28, rfl, hS31, (KLe.refl _), (by decide : rng64 0)⟩ ⟨rfl, rfl, rfl, trivial⟩ ?_
    rintro s55 _ w61 r64 h65 hx66 ⟨K59, rfl, hS62, hl60, hr63⟩
    refine wc_seq ?_
    refine sr ?_
    refine vm rfl rfl ?_
    refine wl_val wn rfl (rv_fieldAddr ff42_1 rfl) ?_
    refine wl_val wn rfl (rv_loadm1 tf40 rfl (.head _) hS62 rfl) ?_
    refine wl_val wn rfl (rv_len (t := tGEntry) Try.underlying40 rfl (SliceAt.mono (hl29.trans hl60) hs8)) ?_
    refine wl_val wn rfl (rv_lss rfl rfl) ?_
    refine nq ?_
    refine wc_cond rfl (fun hb67 => ?_) (fun hb67 => ?_)
    ·have h68 := cond_t hb67 h65
     refine wc_skip ?_
     refine qs ?_
     refine wc_block ?_
     refine wc_seq ?_
     obtain ⟨o69, h70, h71⟩ := ob h68
     refine wc_cutg (fun E' w' => ∃ (K72 : KMap), E' = [(2, .pointer (some ⟨g17, 0, none⟩)), (3, .pointer (some ⟨g21, 0, none⟩)), (5, .int .i64 s55), (71, .bool o69)] ∧ SH w K [] w' K72 [obj g17 [.slice a1 n2 c3, .slice a5 n6 c7] 42, obj g21 [.slice a9 n10 c11, .slice a13 n14 c15] 42] ∧ KLe K59 K72) ?_ ?_
     ·refine wc_quiet mixed (by kernel_rfl) hS62 ?_
      refine wq_val wn rfl (fun _ _ => (rv_fieldAddr ff42_1 rfl)) ?_
      refine wq_val wn rfl (rq_loadm1 tf40 rfl (.head _) rfl) ?_
      refine qm rfl rfl ?_
      obtain ⟨x76, hx77, h78⟩ := ob h70
      refine wq_indexAddr (t := tGEntry) wn rfl Try.underlying40 tf60 rfl rfl (SliceAt.mono (hl29.trans hl60) hs8) hx77 ?_
      intro b79 o80 u81 hu82 ha83
      obtain ⟨a86, n87, c88, rfl, hl84, hl85, hs89⟩ := hu82
      have ha90 : AtK _ b79 o80 [sv x76.Field, sv x76.Term, .slice a86 n87 c88] := ha83
      refine wq_val wn rfl (fun _ _ => (rv_fieldAddr ff60_0 rfl)) ?_
      refine wq_val wn rfl (rq_load1 tf9 rfl (ha90 0 _ rfl)) ?_
      refine wq_val wn rfl (fun _ _ => (rv_fieldAddr ff42_1 rfl)) ?_
      refine wq_val wn rfl (rq_loadm1 tf40 rfl (.tail _ (.head _)) rfl) ?_
      refine qm rfl rfl ?_
      obtain ⟨x91, hx92, h93⟩ := ob h78
      refine wq_indexAddr (t := tGEntry) wn rfl Try.underlying40 tf60 rfl rfl (SliceAt.mono (hl29.trans hl60) hs16) hx92 ?_
      intro b94 o95 u96 hu97 ha98
      obtain ⟨a101, n102, c103, rfl, hl99, hl100, hs104⟩ := hu97
      have ha105 : AtK _ b94 o95 [sv x91.Field, sv x91.Term, .slice a101 n102 c103] := ha98
      refine wq_val wn rfl (fun _ _ => (rv_fieldAddr ff60_0 rfl)) ?_
      refine wq_val wn rfl (rq_load1 tf9 rfl (ha105 0 _ rfl)) ?_
      refine wq_val wn rfl (fun _ _ => (rv_sneq rfl rfl)) ?_
      refine qm rfl rfl ?_
      rcases bool_tf ((!(x76.Field == x91.Field))) with hb106 | hb106
      ·have h107 := cond_t hb106 h93
       refine wq_un (ug rfl rfl hb106) rfl ?_
       refine wq_un (ug rfl rfl hb106) rfl ?_
       refine wq_un (ug rfl rfl hb106) rfl ?_
       refine wq_un (ug rfl rfl hb106) rfl ?_
       refine wq_un (ug rfl rfl hb106) rfl ?_
       refine wq_un (ug rfl rfl hb106) rfl ?_
       refine wq_un (ug rfl rfl hb106) rfl ?_
       refine wq_un (ug rfl rfl hb106) rfl ?_
       refine wq_un (ug rfl rfl hb106) rfl ?_
       refine wq_un (ug rfl rfl hb106) rfl ?_
       refine wq_un (ug rfl rfl hb106) rfl ?_
       refine wq_un (ug rfl rfl hb106) rfl ?_
       refine wq_un (ug rfl rfl hb106) rfl ?_
       refine wq_val wn rfl (fun _ _ => (rv_pick_t (v := .bool true) rfl hb106 rfl)) ?_
       refine qm rfl rfl ?_
       refine qv rfl rfl rfl rfl ?_
       refine qv rfl rfl rfl rfl ?_
       refine qv rfl rfl rfl rfl ?_
       refine qv rfl rfl rfl rfl ?_
       refine qv rfl rfl rfl rfl ?_
       refine qv rfl rfl rfl rfl ?_
       refine qv rfl rfl rfl rfl ?_
       refine qv rfl rfl rfl rfl ?_
       refine qv rfl rfl rfl rfl ?_
       refine qv rfl rfl rfl rfl ?_
       refine qv rfl rfl rfl rfl ?_
       refine qv rfl rfl rfl rfl ?_
       refine qv rfl rfl rfl rfl ?_
       refine qv rfl rfl rfl rfl ?_
       refine wq_val wn rfl (fun _ _ => (rv_pick_t (v := .bool true) rfl rfl rfl)) ?_
       refine wq_nil ?_
       rintro w109 ⟨K108, hS110, hl111⟩
       obtain rfl := oi h107
       exact qe_mid' ⟨K108, rfl, hS110, hl111⟩ ⟨rfl, rfl, rfl, rfl, trivial⟩
      ·have h107 := cond_f hb106 h93
       refine wq_val (wg rfl rfl hb106) rfl (fun _ _ => (rv_fieldAddr ff42_1 rfl)) ?_
       refine wq_val (wg rfl rfl hb106) rfl (rq_loadm1 tf40 rfl (.head _) rfl) ?_
       refine wq_val (wg rfl rfl hb106) rfl (fun _ _ => (rv_move rfl)) ?_
       obtain ⟨x112, hx113, h114⟩ := ob h107
       refine wq_indexAddr (t := tGEntry) (wg rfl rfl hb106) rfl Try.underlying40 tf60 rfl rfl (SliceAt.mono (hl29.trans hl60) hs8) hx113 ?_
       intro b115 o116 u117 hu118 ha119
       obtain ⟨a122, n123, c124, rfl, hl120, hl121, hs125⟩ := hu118
       have ha126 : AtK _ b115 o116 [sv x112.Field, sv x112.Term, .slice a122 n123 c124] := ha119
       refine wq_val (wg rfl rfl hb106) rfl (fun _ _ => (rv_fieldAddr ff60_1 rfl)) ?_
       refine wq_val (wg rfl rfl hb106) rfl (rq_load1 tf9 rfl (ha126 1 _ rfl)) ?_
       refine wq_val (wg rfl rfl hb106) rfl (fun _ _ => (rv_fieldAddr ff42_1 rfl)) ?_
       refine wq_val (wg rfl rfl hb106) rfl (rq_loadm1 tf40 rfl (.tail _ (.head _)) rfl) ?_
       refine wq_val (wg rfl rfl hb106) rfl (fun _ _ => (rv_move rfl)) ?_
       obtain ⟨x127, hx128, h129⟩ := ob h114
       refine wq_indexAddr (t := tGEntry) (wg rfl rfl hb106) rfl Try.underlying40 tf60 rfl rfl (SliceAt.mono (hl29.trans hl60) hs16) hx128 ?_
       intro b130 o131 u132 hu133 ha134
       obtain ⟨a137, n138, c139, rfl, hl135, hl136, hs140⟩ := hu133
       have ha141 : AtK _ b130 o131 [sv x127.Field, sv x127.Term, .slice a137 n138 c139] := ha134
       refine wq_val (wg rfl rfl hb106) rfl (fun _ _ => (rv_fieldAddr ff60_1 rfl)) ?_
       refine wq_val (wg rfl rfl hb106) rfl (rq_load1 tf9 rfl (ha141 1 _ rfl)) ?_
       refine wq_val (wg rfl rfl hb106) rfl (fun _ _ => (rv_sneq rfl rfl)) ?_
       refine wq_val wn rfl (fun _ _ => (rv_pick_f rfl hb106 rfl)) ?_
       refine qm rfl rfl ?_
       rcases bool_tf ((!(x112.Term == x127.Term))) with hb142 | hb142
       ·have h143 := cond_t hb142 h129
        refine wq_un (ug rfl rfl hb142) rfl ?_
        refine wq_un (ug rfl rfl hb142) rfl ?_
        refine wq_un (ug rfl rfl hb142) rfl ?_
        refine wq_un (ug rfl rfl hb142) rfl ?_
        refine wq_un (ug rfl rfl hb142) rfl ?_
        refine wq_un (ug rfl rfl hb142) rfl ?_
        refine wq_un (ug rfl rfl hb142) rfl ?_
        refine wq_un (ug rfl rfl hb142) rfl ?_
        refine wq_un (ug rfl rfl hb142) rfl ?_
        refine wq_un (ug rfl rfl hb142) rfl ?_
        refine wq_un (ug rfl rfl hb142) rfl ?_
        refine wq_un (ug rfl rfl hb142) rfl ?_
        refine wq_un (ug rfl rfl hb142) rfl ?_
        refine wq_un (ug rfl rfl hb142) rfl ?_
        refine wq_val wn rfl (fun _ _ => (rv_pick_t (v := .bool true) rfl hb142 rfl)) ?_
        refine wq_nil ?_
        rintro w145 ⟨K144, hS146, hl147⟩
        obtain rfl := oi h143
        exact qe_mid' ⟨K144, rfl, hS146, hl147⟩ ⟨rfl, rfl, rfl, rfl, trivial⟩
       ·have h143 := cond_f hb142 h129
        refine wq_val (wg rfl rfl hb142) rfl (fun _ _ => (rv_fieldAddr ff42_1 rfl)) ?_
        refine wq_val (wg rfl rfl hb142) rfl (rq_loadm1 tf40 rfl (.head _) rfl) ?_
        refine wq_val (wg rfl rfl hb142) rfl (fun _ _ => (rv_move rfl)) ?_
        obtain ⟨x148, hx149, h150⟩ := ob h143
        refine wq_indexAddr (t := tGEntry) (wg rfl rfl hb142) rfl Try.underlying40 tf60 rfl rfl (SliceAt.mono (hl29.trans hl60) hs8) hx149 ?_
        intro b151 o152 u153 hu154 ha155
        obtain ⟨a158, n159, c160, rfl, hl156, hl157, hs161⟩ := hu154
        have ha162 : AtK _ b151 o152 [sv x148.Field, sv x148.Term, .slice a158 n159 c160] := ha155
        refine wq_val (wg rfl rfl hb142) rfl (fun _ _ => (rv_fieldAddr ff60_2 rfl)) ?_
        refine wq_val (wg rfl rfl hb142) rfl (rq_load1 tf58 rfl (ha162 2 _ rfl)) ?_
        refine wq_val (wg rfl rfl hb142) rfl (fun _ _ => (rv_fieldAddr ff42_1 rfl)) ?_
        refine wq_val (wg rfl rfl hb142) rfl (rq_loadm1 tf40 rfl (.tail _ (.head _)) rfl) ?_
        refine wq_val (wg rfl rfl hb142) rfl (fun _ _ => (rv_move rfl)) ?_
        obtain ⟨x163, hx164, h165⟩ := ob h150
        refine wq_indexAddr (t := tGEntry) (wg rfl rfl hb142) rfl Try.underlying40 tf60 rfl rfl (SliceAt.mono (hl29.trans hl60) hs16) hx164 ?_
        intro b166 o167 u168 hu169 ha170
        obtain ⟨a173, n174, c175, rfl, hl171, hl172, hs176⟩ := hu169
        have ha177 : AtK _ b166 o167 [sv x163.Field, sv x163.Term, .slice a173 n174 c175] := ha170
        refine wq_val (wg rfl rfl hb142) rfl (fun _ _ => (rv_fieldAddr ff60_2 rfl)) ?_
        refine wq_val (wg rfl rfl hb142) rfl (rq_load1 tf58 rfl (ha177 2 _ rfl)) ?_
        obtain ⟨r178, hx179, h180⟩ := ob h165
        refine wq_call (v := .bool r178) (wg rfl rfl hb142) rfl (fun _ => rt_call (vs := [.slice a158 n159 c160, .slice a173 n174 c175]) co27 rfl) (fun w183 ⟨K181, hS182, hl184⟩ => ((ok_laws_foPosts F) hS182.enter0 (SliceAt.mono hl184 hs161) (SliceAt.mono hl184 hs176) hx179).mono fun e w' ⟨K', he, hS'⟩ => ⟨he, K', hS182.call0 hS', hl184.trans hS'.le⟩) ?_
        refine wq_val (wg rfl rfl hb142) rfl (fun _ _ => (rv_not rfl)) ?_
        refine wq_val wn rfl (fun _ _ => (rv_pick_f rfl hb142 rfl)) ?_
        refine wq_nil ?_
        rintro w186 ⟨K185, hS187, hl188⟩
        obtain rfl := oi h180
        exact qe_mid' ⟨K185, rfl, hS187, hl188⟩ ⟨rfl, rfl, rfl, rfl, trivial⟩
     ·rintro _ w74 ⟨K72, rfl, hS75, hl73⟩
      refine qe_seq ?_
      refine wc_cond rfl (fun hb189 => ?_) (fun hb189 => ?_)
      ·have h190 := cond_t hb189 h71
       refine sr ?_
       refine wl_val wn rfl (rv_assign (v := .bool false) rfl) ?_
       refine nq ?_
       refine wc_ret ?_
       refine qe_block_ret ?_
       refine qe_then_ret ?_
       refine qe_then_ret ?_
       obtain rfl := oi h190
       have e191 := hx66 _ rfl
       subst e191
       refine qe_block_ret ?_
       refine qe_then_ret ?_
       obtain rfl := oi h58
       refine qe_then_ret ?_
       obtain rfl := oi h49
       have hS192 : SH _ _ _ _ _ [] := SH.sublist hS75 (.cons _ (.cons _ .slnil))
       exact qe_ret (vs := [_]) Try.results22 ⟨rfl, trivial⟩ ⟨K72, rfl, hS192⟩
      ·have h190 := cond_f hb189 h71
       refine wc_skip ?_
       refine qe_block ?_
       refine qe_seq ?_
       refine wc_region ?_
       refine vm rfl rfl ?_
       refine wl_val wn rfl (rv_add rfl rfl) ?_
       refine va rfl rfl ?_
       refine wl_nil ?_
       obtain rfl := oi h190
       exact qe_mid' ⟨_, rfl, K72, rfl, hS75, (hl60.trans hl73), (w64_rng _)⟩ ⟨rfl, rfl, rfl, trivial⟩
    ·have h68 := cond_f hb67 h65
     refine wc_exit ?_
     refine qe_then_exit ?_
     refine qe_then_exit ?_
     obtain rfl := oi h68
     have e193 := hx66 _ rfl
     subst e193
     refine qe_block_eq ?_
     obtain rfl := oi h58
     have hS194 : SH _ _ _ _ _ [] := SH.sublist hS62 (.cons _ (.cons _ .slnil))
     exact qe_mid' ⟨_, K59, rfl, rfl, hS194, hl60⟩ trivial
   ·rintro _ w53 ⟨s50, K51, rfl, rfl, hS54, hl52⟩
    refine qr ?_
    refine wl_val wn rfl (rv_assign (v := .bool true) rfl) ?_
    refine nq ?_
    refine wc_ret ?_
    obtain rfl := oi h49
    exact qe_ret (vs := [_]) Try.results22 ⟨rfl, trivial⟩ ⟨K51, rfl, hS54⟩

theorem ok_spec_l1In (F : Nat) {w : World} {K : KMap} {p0_n : Int} {p1_low : Int} {p2_high : Int} {r : Bool} (hS : SH w K [] w K []) (hr1 : rng64 p0_n) (hr2 : rng64 p1_low) (hr3 : rng64 p2_high) (hm : M.spec_l1In F p0_n p1_low p2_high = some r) :
  Calls Try.prog 85 #[.int .i64 p0_n, .int .i64 p1_low, .int .i64 p2_high] w fun e w' => ∃ (K' : KMap), e = .returned (.bool r) ∧ SH w K [] w' K' [] := by
 rw [M.spec_l1In] at hm
 refine calls_in Try.func85 rfl Try.ntmps85 rfl ?_
 refine sr ?_
 refine wl_val wn rfl (rv_assign (v := .bool false) rfl) ?_
 refine nr ?_
 refine vm rfl rfl ?_
 refine vm rfl rfl ?_
 refine wl_val wn rfl (rv_geq rfl rfl) ?_
 refine vm rfl rfl ?_
 rcases bool_tf (decide (p1_low ≤ p0_n)) with hb4 | hb4
 ·have h5 := cond_t hb4 hm
  refine wl_val (wg rfl rfl hb4) rfl (rv_move rfl) ?_
  refine wl_val (wg rfl rfl hb4) rfl (rv_move rfl) ?_
  refine wl_val (wg rfl rfl hb4) rfl (rv_leq rfl rfl) ?_
  refine wl_val wn rfl (rv_pick_t rfl hb4 rfl) ?_
  refine va rfl rfl ?_
  refine nq ?_
  refine wc_ret ?_
  obtain rfl := oi h5
  exact qe_ret (vs := [_]) Try.results85 ⟨rfl, trivial⟩ ⟨K, rfl, hS⟩
 ·have h5 := cond_f hb4 hm
  refine wl_un (ug rfl rfl hb4) rfl ?_
  refine wl_un (ug rfl rfl hb4) rfl ?_
  refine wl_un (ug rfl rfl hb4) rfl ?_
  refine wl_val wn rfl (rv_pick_f (v := .bool false) rfl hb4 rfl) ?_
  refine va rfl rfl ?_
  refine nq ?_
  refine wc_ret ?_
  obtain rfl := oi h5
  exact qe_ret (vs := [_]) Try.results85 ⟨rfl, trivial⟩ ⟨K, rfl, hS⟩

set_option maxHeartbeats 2000000 in
theorem ok_spec_l1Fold (F : Nat) {w : World} {K : KMap} {p0_b : UInt8} {r : UInt8} (hS : SH w K [] w K []) (hm : M.spec_l1Fold F p0_b = some r) :
  Calls Try.prog 136 #[iv8 p0_b] w fun e w' => ∃ (K' : KMap), e = .returned (iv8 r) ∧ SH w K [] w' K' [] := by
 rw [M.spec_l1Fold] at hm
 refine calls_in Try.func136 rfl Try.ntmps136 rfl ?_
 refine sr ?_
 refine wl_val wn rfl (rv_assign (v := iv8 0) rfl) ?_
 refine ns ?_
 refine wc_block ?_
 refine wc_seq ?_
 obtain ⟨o1, h2, h3⟩ := ob hm
 refine wc_cutg (fun E' w' => ∃ (K4 : KMap), E' = [(0, iv8 p0_b), (3, .bool o1)] ∧ SH w K [] w' K4 [] ∧ KLe K K4) ?_ ?_
 ·refine wc_region ?_
  refine vm rfl rfl ?_
  refine wl_val wn rfl (rv_bge (b := (65 : UInt8)) rfl rfl) ?_
  refine vm rfl rfl ?_
  rcases bool_tf (decide ((65 : UInt8) ≤ p0_b)) with hb8 | hb8
  ·have h9 := cond_t hb8 h2
   refine wl_val (wg rfl rfl hb8) rfl (rv_move rfl) ?_
   refine wl_val (wg rfl rfl hb8) rfl (rv_ble (b := (90 : UInt8)) rfl rfl) ?_
   refine wl_val wn rfl (rv_pick_t rfl hb8 rfl) ?_
   refine va rfl rfl ?_
   refine wl_nil ?_
   obtain rfl := oi h9
   exact qe_mid' ⟨K, rfl, hS, (KLe.refl _)⟩ ⟨rfl, rfl, trivial⟩
  ·have h9 := cond_f hb8 h2
   refine wl_un (ug rfl rfl hb8) rfl ?_
   refine wl_un (ug rfl rfl hb8) rfl ?_
   refine wl_val wn rfl (rv_pick_f (v := .bool false) rfl hb8 rfl) ?_
   refine va rfl rfl ?_
   refine wl_nil ?_
   obtain rfl := oi h9
   exact qe_mid' ⟨K, rfl, hS, (KLe.refl _)⟩ ⟨rfl, rfl, trivial⟩
 ·rintro _ w6 ⟨K4, rfl, hS7, hl5⟩
  refine qe_seq ?_
  refine wc_cond rfl (fun hb10 => ?_) (fun hb10 => ?_)
  ·have h11 := cond_t hb10 h3
   refine sr ?_
   refine vm rfl rfl ?_
   refine wl_val wn rfl (rv_badd (b := (32 : UInt8)) rfl rfl) ?_
   refine va rfl rfl ?_
   refine nq ?_
   refine wc_ret ?_
   refine qe_block_ret ?_
   refine qe_then_ret ?_
   obtain rfl := oi h11
   exact qe_ret (vs := [_]) Try.results136 ⟨rfl, trivial⟩ ⟨K4, rfl, hS7⟩
  ·have h11 := cond_f hb10 h3
   refine wc_seq ?_
   obtain ⟨o12, h13, h14⟩ := ob h11
   refine wc_cutg (fun E' w' => ∃ (K15 : KMap), E' = [(0, iv8 p0_b), (12, .bool o12)] ∧ SH w K [] w' K15 [] ∧ KLe K4 K15) ?_ ?_
   ·refine wc_region ?_
    refine vm rfl rfl ?_
    refine wl_val wn rfl (rv_bge (b := (97 : UInt8)) rfl rfl) ?_
    refine vm rfl rfl ?_
    rcases bool_tf (decide ((97 : UInt8) ≤ p0_b)) with hb19 | hb19
    ·have h20 := cond_t hb19 h13
     refine wl_val (wg rfl rfl hb19) rfl (rv_move rfl) ?_
     refine wl_val (wg rfl rfl hb19) rfl (rv_ble (b := (122 : UInt8)) rfl rfl) ?_
     refine wl_val wn rfl (rv_pick_t rfl hb19 rfl) ?_
     refine vm rfl rfl ?_
     rcases bool_tf (decide (p0_b ≤ (122 : UInt8))) with hb21 | hb21
     ·have h22 := cond_t hb21 h20
      refine wl_un (ug rfl rfl hb21) rfl ?_
      refine wl_un (ug rfl rfl hb21) rfl ?_
      refine wl_un (ug rfl rfl hb21) rfl ?_
      refine wl_un (uu rfl rfl) rfl ?_
      refine wl_un (uu rfl rfl) rfl ?_
      refine wl_un (ug rfl rfl hb21) rfl ?_
      refine wl_val wn rfl (rv_pick_t (v := .bool true) rfl hb21 rfl) ?_
      refine va rfl rfl ?_
      refine wl_nil ?_
      obtain rfl := oi h22
      exact qe_mid' ⟨K4, rfl, hS7, (KLe.refl _)⟩ ⟨rfl, rfl, trivial⟩
     ·have h22 := cond_f hb21 h20
      refine wl_val (wg rfl rfl hb21) rfl (rv_move rfl) ?_
      refine wl_val (wg rfl rfl hb21) rfl (rv_bge (b := (48 : UInt8)) rfl rfl) ?_
      refine wl_val (wg rfl rfl hb21) rfl (rv_move rfl) ?_
      rcases bool_tf (decide ((48 : UInt8) ≤ p0_b)) with hb23 | hb23
      ·have h24 := cond_t hb23 h22
       refine wl_val (wg rfl rfl hb23) rfl (rv_move rfl) ?_
       refine wl_val (wg rfl rfl hb23) rfl (rv_ble (b := (57 : UInt8)) rfl rfl) ?_
       refine wl_val (wg rfl rfl hb21) rfl (rv_pick_t rfl hb23 rfl) ?_
       refine wl_val wn rfl (rv_pick_f rfl hb21 rfl) ?_
       refine va rfl rfl ?_
       refine wl_nil ?_
       obtain rfl := oi h24
       exact qe_mid' ⟨K4, rfl, hS7, (KLe.refl _)⟩ ⟨rfl, rfl, trivial⟩
      ·have h24 := cond_f hb23 h22
       refine wl_un (ug rfl rfl hb23) rfl ?_
       refine wl_un (ug rfl rfl hb23) rfl ?_
       refine wl_val (wg rfl rfl hb21) rfl (rv_pick_f (v := .bool false) rfl hb23 rfl) ?_
       refine wl_val wn rfl (rv_pick_f rfl hb21 rfl) ?_
       refine va rfl rfl ?_
       refine wl_nil ?_
       obtain rfl := oi h24
       exact qe_mid' ⟨K4, rfl, hS7, (KLe.refl _)⟩ ⟨rfl, rfl, trivial⟩
    ·have h20 := cond_f hb19 h13
     refine wl_un (ug rfl rfl hb19) rfl ?_
     refine wl_un (ug rfl rfl hb19) rfl ?_
     refine wl_val wn rfl (rv_pick_f (v := .bool false) rfl hb19 rfl) ?_
     refine vm rfl rfl ?_
     refine wl_val (wg rfl rfl rfl) rfl (rv_move rfl) ?_
     refine wl_val (wg rfl rfl rfl) rfl (rv_bge (b := (48 : UInt8)) rfl rfl) ?_
     refine wl_val (wg rfl rfl rfl) rfl (rv_move rfl) ?_
     rcases bool_tf (decide ((48 : UInt8) ≤ p0_b)) with hb25 | hb25
     ·have h26 := cond_t hb25 h20
      refine wl_val (wg rfl rfl hb25) rfl (rv_move rfl) ?_
      refine wl_val (wg rfl rfl hb25) rfl (rv_ble (b := (57 : UInt8)) rfl rfl) ?_
      refine wl_val (wg rfl rfl rfl) rfl (rv_pick_t rfl hb25 rfl) ?_
      refine wl_val wn rfl (rv_pick_f rfl rfl rfl) ?_
      refine va rfl rfl ?_
      refine wl_nil ?_
      obtain rfl := oi h26
      exact qe_mid' ⟨K4, rfl, hS7, (KLe.refl _)⟩ ⟨rfl, rfl, trivial⟩
     ·have h26 := cond_f hb25 h20
      refine wl_un (ug rfl rfl hb25) rfl ?_
      refine wl_un (ug rfl rfl hb25) rfl ?_
      refine wl_val (wg rfl rfl rfl) rfl (rv_pick_f (v := .bool false) rfl hb25 rfl) ?_
      refine wl_val wn rfl (rv_pick_f rfl rfl rfl) ?_
      refine va rfl rfl ?_
      refine wl_nil ?_
      obtain rfl := oi h26
      exact qe_mid' ⟨K4, rfl, hS7, (KLe.refl _)⟩ ⟨rfl, rfl, trivial⟩
   ·rintro _ w17 ⟨K15, rfl, hS18, hl16⟩
    refine qe_seq ?_
    refine wc_cond rfl (fun hb27 => ?_) (fun hb27 => ?_)
    ·have h28 := cond_t hb27 h14
     refine sr ?_
     refine vm rfl rfl ?_
     refine va rfl rfl ?_
     refine nq ?_
     refine wc_ret ?_
     refine qe_block_ret ?_
     refine qe_then_ret ?_
     obtain rfl := oi h28
     exact qe_ret (vs := [_]) Try.results136 ⟨rfl, trivial⟩ ⟨K15, rfl, hS18⟩
    ·have h28 := cond_f hb27 h14
     refine wc_skip ?_
     refine qe_block ?_
     refine qr ?_
     refine wl_val wn rfl (rv_assign (v := iv8 0) rfl) ?_
     refine nq ?_
     refine wc_ret ?_
     obtain rfl := oi h28
     exact qe_ret (vs := [_]) Try.results136 ⟨rfl, trivial⟩ ⟨K15, rfl, hS18⟩
end Go.Proofs.Ytdcmmhjhffcnhaa
