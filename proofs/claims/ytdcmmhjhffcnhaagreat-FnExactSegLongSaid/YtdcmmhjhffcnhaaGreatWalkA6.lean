/-
 Walks of the functions. Printed by gen.py.
-/
import Derived.Test.YtdcmmhjhffcnhaaGreatWalkA5
set_option linter.unusedVariables false
set_option maxRecDepth 100000
namespace Go.Proofs.YtdcmmhjhffcnhaaGreat
open Go Go.Fk Go.RowKit

theorem ok_impl_Seg_put_1 (F : Nat) {w : World} {K : KMap} {a3 : Option Addr} {n4 c5 : Nat} {g7 : Nat} {g9 : Nat} {p0_e : GEntry} {p1_x : Str} {p2_x : GTerm} {r : Bool} (hS : SH w K (List.flatMap Item.gs [obj g7 [sv p1_x] 9, obj g9 [sv p2_x.Text, .int .i64 p2_x.At] 46]) w K [obj g7 [sv p1_x] 9, obj g9 [sv p2_x.Text, .int .i64 p2_x.At] 46]) (hl1 : p0_e.Field.length ≤ maxLen) (hl2 : p0_e.Term.length ≤ maxLen) (hs6 : SliceAt tGPost K a3 n4 c5 p0_e.Posts) (hl8 : p1_x.length ≤ maxLen) (hl10 : p2_x.Text.length ≤ maxLen) (hr11 : rng64 p2_x.At) (hm : M.impl_Seg_put_1 F p0_e p1_x p2_x = some r) :
  Calls Tryz.prog 123 #[.agg #[sv p0_e.Field, sv p0_e.Term, .slice a3 n4 c5], .pointer (some ⟨g7, 0, none⟩), .pointer (some ⟨g9, 0, none⟩)] w fun e w' => ∃ (K' : KMap), e = .returned (.bool r) ∧ SH w K (List.flatMap Item.gs [obj g7 [sv p1_x] 9, obj g9 [sv p2_x.Text, .int .i64 p2_x.At] 46]) w' K' [obj g7 [sv p1_x] 9, obj g9 [sv p2_x.Text, .int .i64 p2_x.At] 46] := by
 rw [M.impl_Seg_put_1] at hm
 refine calls_in Tryz.func123 rfl Tryz.ntmps123 rfl ?_
 refine sr ?_
 refine wl_box wn rfl rfl hS ?_
 intro g12 w13 hS14
 have hS15 : SH _ _ _ _ _ [obj g12 [sv p0_e.Field, sv p0_e.Term, .slice a3 n4 c5] 94, _, _] := hS14
 refine wl_val wn rfl (rv_assign (v := .bool false) rfl) ?_
 refine nr ?_
 refine wl_val wn rfl (rv_fieldAddr ff94_0 rfl) ?_
 refine wl_val wn rfl (rv_loadm1 tf9 rfl (.head _) hS15 rfl) ?_
 refine wl_val wn rfl (rv_loadm1 tf9 rfl (.tail _ (.head _)) hS15 rfl) ?_
 refine wl_val wn rfl (rv_seql rfl rfl) ?_
 refine vm rfl rfl ?_
 rcases bool_tf ((p0_e.Field == p1_x)) with hb16 | hb16
 ·have h17 := cond_t hb16 hm
  refine wl_val (wg rfl rfl hb16) rfl (rv_fieldAddr ff94_1 rfl) ?_
  refine wl_val (wg rfl rfl hb16) rfl (rv_loadm1 tf9 rfl (.head _) hS15 rfl) ?_
  refine wl_val (wg rfl rfl hb16) rfl (rv_fieldAddr ff46_0 rfl) ?_
  refine wl_val (wg rfl rfl hb16) rfl (rv_loadm1 tf9 rfl (.tail _ (.tail _ (.head _))) hS15 rfl) ?_
  refine wl_val (wg rfl rfl hb16) rfl (rv_seql rfl rfl) ?_
  refine wl_val wn rfl (rv_pick_t rfl hb16 rfl) ?_
  refine va rfl rfl ?_
  refine nq ?_
  refine wc_ret ?_
  obtain rfl := oi h17
  have hS18 : SH _ _ _ _ _ [_, _] := SH.sublist hS15 (.cons _ (.cons_cons _ (.cons_cons _ .slnil)))
  exact qe_ret (vs := [_]) Tryz.results123 ⟨rfl, trivial⟩ ⟨K, rfl, hS18⟩
 ·have h17 := cond_f hb16 hm
  refine wl_un (ug rfl rfl hb16) rfl ?_
  refine wl_un (ug rfl rfl hb16) rfl ?_
  refine wl_un (ug rfl rfl hb16) rfl ?_
  refine wl_un (ug rfl rfl hb16) rfl ?_
  refine wl_un (ug rfl rfl hb16) rfl ?_
  refine wl_val wn rfl (rv_pick_f (v := .bool false) rfl hb16 rfl) ?_
  refine va rfl rfl ?_
  refine nq ?_
  refine wc_ret ?_
  obtain rfl := oi h17
  have hS19 : SH _ _ _ _ _ [_, _] := SH.sublist hS15 (.cons _ (.cons_cons _ (.cons_cons _ .slnil)))
  exact qe_ret (vs := [_]) Tryz.results123 ⟨rfl, trivial⟩ ⟨K, rfl, hS19⟩

theorem ok_slices_IndexFunc_Entry__impl_Seg_put_1 (F : Nat) {w : World} {K : KMap} {a1 : Option Addr} {n2 c3 : Nat} {g5 : Nat} {g7 : Nat} {p0_s : List GEntry} {p1_f_c0 : Str} {p1_f_c1 : GTerm} {r : Int} (hS : SH w K (List.flatMap Item.gs [obj g5 [sv p1_f_c0] 9, obj g7 [sv p1_f_c1.Text, .int .i64 p1_f_c1.At] 46]) w K [obj g5 [sv p1_f_c0] 9, obj g7 [sv p1_f_c1.Text, .int .i64 p1_f_c1.At] 46]) (hs4 : SliceAt tGEntry K a1 n2 c3 p0_s) (hl6 : p1_f_c0.length ≤ maxLen) (hl8 : p1_f_c1.Text.length ≤ maxLen) (hr9 : rng64 p1_f_c1.At) (hm : M.slices_IndexFunc_Entry__impl_Seg_put_1 F p0_s p1_f_c0 p1_f_c1 = some r) :
  Calls Tryz.prog 122 #[.slice a1 n2 c3, .func (.func 123) #[] #[.pointer (some ⟨g5, 0, none⟩), .pointer (some ⟨g7, 0, none⟩)]] w fun e w' => ∃ (K' : KMap), e = .returned (.int .i64 r) ∧ SH w K (List.flatMap Item.gs [obj g5 [sv p1_f_c0] 9, obj g7 [sv p1_f_c1.Text, .int .i64 p1_f_c1.At] 46]) w' K' [obj g5 [sv p1_f_c0] 9, obj g7 [sv p1_f_c1.Text, .int .i64 p1_f_c1.At] 46] ∧ rng64 r := by
 rw [M.slices_IndexFunc_Entry__impl_Seg_put_1] at hm
 refine calls_in Tryz.func122 rfl Tryz.ntmps122 rfl ?_
 refine sr ?_
 refine wl_val wn rfl (rv_assign (v := .int .i64 0) rfl) ?_
 refine nsr ?_
 refine vm rfl rfl ?_
 refine wl_val wn rfl (rv_len (t := tGEntry) Tryz.underlying28 rfl hs4) ?_
 refine wl_val wn rfl (rv_move (v := .int .i64 0) rfl) ?_
 refine nq ?_
 obtain ⟨o10, h11, h12⟩ := ob hm
 refine wc_cutg (fun E' w' => ∃ (s13 : Unit) (K14 : KMap), o10 = .inl s13 ∧ E' = [] ∧ SH w K (List.flatMap Item.gs [obj g5 [sv p1_f_c0] 9, obj g7 [sv p1_f_c1.Text, .int .i64 p1_f_c1.At] 46]) w' K14 [obj g5 [sv p1_f_c0] 9, obj g7 [sv p1_f_c1.Text, .int .i64 p1_f_c1.At] 46] ∧ KLe K K14) ?_ ?_
 ·refine wc_block ?_
  obtain ⟨r19, h20, h21⟩ := ob h11
  refine wc_for' (fun (i22 : Nat) (s18 : Unit) E' w' => ∃ (K23 : KMap), E' = [(0, .slice a1 n2 c3), (1, .func (.func 123) #[] #[.pointer (some ⟨g5, 0, none⟩), .pointer (some ⟨g7, 0, none⟩)]), (7, .int .i64 (p0_s.length : Int)), (8, .int .i64 ((i22 : Nat) : Int))] ∧ SH w K (List.flatMap Item.gs [obj g5 [sv p1_f_c0] 9, obj g7 [sv p1_f_c1.Text, .int .i64 p1_f_c1.At] 46]) w' K23 [obj g5 [sv p1_f_c0] 9, obj g7 [sv p1_f_c1.Text, .int .i64 p1_f_c1.At] 46] ∧ KLe K K23) h20 ⟨K, rfl, hS, (KLe.refl _)⟩ ⟨rfl, rfl, rfl, rfl, trivial⟩ ?_ ?_
  ·rintro i22 s18 _ w25 r27 hi28 h29 hx30 ⟨K23, rfl, hS26, hl24⟩
   refine sr ?_
   refine wl_val wn rfl (rv_lss rfl rfl) ?_
   refine ns ?_
   refine wc_cond_t rfl (decide_eq_true (by omega)) (wc_skip (qe_seq (wc_seq ?_)))
   refine wc_block ?_
   refine sr ?_
   refine vm rfl rfl ?_
   refine va rfl rfl ?_
   refine nr ?_
   refine vm rfl rfl ?_
   refine vm rfl rfl ?_
   refine vm rfl rfl ?_
   obtain ⟨x31, hx32, h33⟩ := ob h29
   refine wl_indexAddr (t := tGEntry) wn rfl Tryz.underlying28 tf94 rfl rfl (SliceAt.mono hl24 hs4) hx32 ?_
   intro b34 o35 u36 hu37 ha38
   obtain ⟨a41, n42, c43, rfl, hl39, hl40, hs44⟩ := hu37
   have ha45 : AtK _ b34 o35 [sv x31.Field, sv x31.Term, .slice a41 n42 c43] := ha38
   refine wl_val wn rfl (rv_loadS (cs := [sv x31.Field, sv x31.Term, .slice a41 n42 c43]) tf94 rfl hS26 ha45 rfl) ?_
   obtain ⟨r46, hx47, h48⟩ := ob h33
   have hS49 : SH _ _ _ _ _ [_, _] := SH.front (p := [_]) hS26
   have hS50 : SH _ _ _ _ _ [_, _] := SH.front (p := [_]) hS49
   refine wl_call wn rfl (rt_callv (vs := [.agg #[sv x31.Field, sv x31.Term, .slice a41 n42 c43]]) (cap := #[.pointer (some ⟨g5, 0, none⟩), .pointer (some ⟨g7, 0, none⟩)]) co123 rfl rfl) ((ok_impl_Seg_put_1 F) (SH.enter (Lin := [_, _]) hS50) hl39 hl40 hs44 hl6 hl8 hr9 hx47) ?_
   rintro e54 w52 ⟨K51, rfl, hS53⟩
   refine ⟨_, rfl, ?_⟩
   have hS55 : SH _ _ _ _ _ [_, _] := SH.call (Lin := [_, _]) hS50 hS53
   refine nq ?_
   refine wc_cond rfl (fun hb56 => ?_) (fun hb56 => ?_)
   ·have h57 := cond_t hb56 h48
    refine sr ?_
    refine vm rfl rfl ?_
    refine va rfl rfl ?_
    refine nq ?_
    refine wc_ret ?_
    refine qe_block_ret ?_
    refine qe_then_ret ?_
    refine qe_then_ret ?_
    obtain rfl := oi h57
    have e58 := hx30 _ rfl
    subst e58
    refine qe_block_ret ?_
    refine qe_then_ret ?_
    obtain rfl := oi h21
    refine qe_then_ret ?_
    obtain rfl := oi h12
    exact qe_ret (vs := [_]) Tryz.results122 ⟨rfl, trivial⟩ ⟨K51, rfl, hS55, (rng_idx hi28 (SliceAt.max hs4))⟩
   ·have h57 := cond_f hb56 h48
    refine wc_skip ?_
    refine qe_block ?_
    refine qg ?_
    refine wl_val wn rfl (rv_add_to rfl rfl (w64_succ hi28 (SliceAt.max hs4))) ?_
    refine vm rfl rfl ?_
    refine wl_nil ?_
    obtain rfl := oi h57
    exact qe_mid' ⟨_, rfl, K51, rfl, hS55, (hl24.trans hS53.le)⟩ ⟨rfl, rfl, rfl, rfl, trivial⟩
  ·rintro s18 _ w25 hr59 ⟨K23, rfl, hS26, hl24⟩
   subst hr59
   refine sr ?_
   refine wl_val wn rfl (rv_lss rfl rfl) ?_
   refine ns ?_
   refine wc_cond_f rfl (decide_eq_false (by omega)) ?_
   refine wc_exit ?_
   refine qe_then_exit ?_
   refine qe_then_exit ?_
   refine qe_block_eq ?_
   obtain rfl := oi h21
   exact qe_mid' ⟨_, K23, rfl, rfl, hS26, hl24⟩ trivial
 ·rintro _ w16 ⟨s13, K14, rfl, rfl, hS17, hl15⟩
  refine qr ?_
  refine wl_val wn rfl (rv_assign (v := .int .i64 (-1)) rfl) ?_
  refine nq ?_
  refine wc_ret ?_
  obtain rfl := oi h12
  exact qe_ret (vs := [_]) Tryz.results122 ⟨rfl, trivial⟩ ⟨K14, rfl, hS17, (by decide : rng64 (-1))⟩

set_option maxHeartbeats 2000000 in
theorem ok_impl_Seg_put (F : Nat) {w : World} {K : KMap} {g : Nat} {a1 : Option Addr} {n1 c1 : Nat} {a : Option Addr} {n c : Nat} {lay : List ELay} {p0_s : GSeg} {p1_field : Str} {p2_t : GTerm} {p3_id : Int} {r : GSeg} (hS0 : SH w K (List.flatMap Item.gs [obj g [.slice a1 n1 c1, .slice a n c] 30, pack (segItems 94 48 3 a n c lay)]) w K [obj g [.slice a1 n1 c1, .slice a n c] 30, pack (segItems 94 48 3 a n c lay)]) (hs1 : SliceAt tGDoc K a1 n1 c1 p0_s.Docs) (hl0 : LayOk lay p0_s.Entries) (hl1 : p1_field.length ≤ maxLen) (hl2 : p2_t.Text.length ≤ maxLen) (hr2 : rng64 p2_t.At) (hr3 : rng64 p3_id) (hm : M.impl_Seg_put F p0_s p1_field p2_t p3_id = some r) :
  Calls Tryz.prog 71 #[.pointer (some ⟨g, 0, none⟩), sv p1_field, .agg #[sv p2_t.Text, .int .i64 p2_t.At], .int .i64 p3_id] w fun e w' => ∃ (a_1 : Option Addr) (n_2 c_3 : Nat) (a_4 : Option Addr) (n_5 c_6 : Nat) (lay_7 : List ELay) (K' : KMap), e = .returned (.tuple #[]) ∧ SH w K (List.flatMap Item.gs [obj g [.slice a1 n1 c1, .slice a n c] 30, pack (segItems 94 48 3 a n c lay)]) w' K' [obj g [.slice a_1 n_2 c_3, .slice a_4 n_5 c_6] 30, pack (segItems 94 48 3 a_4 n_5 c_6 lay_7)] ∧ SliceAt tGDoc K' a_1 n_2 c_3 r.Docs ∧ LayOk lay_7 r.Entries := by
 rw [M.impl_Seg_put] at hm
 obtain ⟨k, hx1, h1⟩ := ob hm
 obtain ⟨es, hx2, h2⟩ := ob h1
 obtain ⟨en, hx3, h3⟩ := ob h2
 obtain ⟨ps, hx4, h4⟩ := ob h3
 obtain ⟨p, hx5, h5⟩ := ob h4
 obtain ⟨at_, hx6, h6⟩ := ob h5
 obtain rfl := oi h6
 have hS1 : SH w K (List.flatMap Item.gs [obj g [.slice a1 n1 c1, .slice a n c] 30, pack (segItems 94 48 3 a n c lay)]) w K (segTop 94 a n c lay :: ((lay).flatMap (ELay.items 48 3) ++ [obj g [.slice a1 n1 c1, .slice a n c] 30])) := (hS0.perm (List.Perm.swap _ _ _)).unpack
 have hS2 : SH w K (List.flatMap Item.gs [obj g [.slice a1 n1 c1, .slice a n c] 30, pack (segItems 94 48 3 a n c lay)]) w K (obj g [.slice a1 n1 c1, .slice a n c] 30 :: segTop 94 a n c lay :: (lay).flatMap (ELay.items 48 3)) := hS1.perm (by rw [← List.cons_append]; exact List.perm_append_singleton _ _ |>.symm)
 generalize hMM : (List.flatMap Item.gs [obj g [.slice a1 n1 c1, .slice a n c] 30, pack (segItems 94 48 3 a n c lay)]) = MM at *
 refine calls_in Tryz.func71 rfl Tryz.ntmps71 rfl ?_
 refine sr ?_
 refine wl_box wn rfl rfl hS2 ?_
 intro g5 w5 hS3'
 have hS3 : SH w K MM w5 K (obj g5 [sv p1_field] 9 :: obj g [.slice a1 n1 c1, .slice a n c] 30 :: segTop 94 a n c lay :: (lay).flatMap (ELay.items 48 3)) := hS3'
 refine wl_box wn rfl rfl hS3 ?_
 intro g6 w6 hS4'
 have hS4 : SH w K MM w6 K (obj g6 [sv p2_t.Text, .int .i64 p2_t.At] 46 :: obj g5 [sv p1_field] 9 :: obj g [.slice a1 n1 c1, .slice a n c] 30 :: segTop 94 a n c lay :: (lay).flatMap (ELay.items 48 3)) := hS4'
 refine nr ?_
 refine vm rfl rfl ?_
 refine wl_val wn rfl (rv_nilCheck rfl) ?_
 refine wl_val wn rfl (rv_fieldAddr ff30_1 rfl) ?_
 refine wl_val wn rfl (rv_loadm1 tf28 rfl (.tail _ (.tail _ (.head _))) hS4 rfl) ?_
 refine wl_val wn rfl (rv_makeFunc (vs := [.pointer (some ⟨g5, 0, none⟩), .pointer (some ⟨g6, 0, none⟩)]) rfl) ?_
 obtain ⟨gs, hgs⟩ : ∃ gs, gs = (segTop 94 a n c lay :: (lay).flatMap (ELay.items 48 3)).flatMap Item.gs := ⟨_, rfl⟩
 have hS5 : SH w K MM w6 K ([obj g5 [sv p1_field] 9, obj g6 [sv p2_t.Text, .int .i64 p2_t.At] 46] ++ (obj g [.slice a1 n1 c1, .slice a n c] 30 :: segTop 94 a n c lay :: (lay).flatMap (ELay.items 48 3))) := hS4.perm (List.Perm.swap _ _ _)
 have hnd := hS5.nodup
 rw [List.flatMap_append, List.nodup_append, List.flatMap_cons] at hnd
 have hg56 : g5 ∉ gs ∧ g6 ∉ gs := by
  rw [hgs]
  exact ⟨fun hb => hnd.2.2 g5 (by simp [obj, Go.Fk.one]) g5 (List.mem_append_right _ hb) rfl, fun hb => hnd.2.2 g6 (by simp [obj, Go.Fk.one]) g6 (List.mem_append_right _ hb) rfl⟩
 have hseg := seg_lent (TE := 94) (TP := 48) (TI := 3) (gs := gs) hS5 (fun it hi => List.mem_append_right _ (List.mem_cons_of_mem _ hi)) (fun it hi b hb => by rw [hgs]; exact List.mem_flatMap.2 ⟨it, hi, hb⟩) hl0
 have hlnd := hS5.lend (Kin := seeK K w6 gs) (see_holds hS5.holds) (fun it hi => by
  rcases List.mem_cons.1 hi with rfl | hi
  ·exact obj_see (hS5.items _ (List.mem_cons_self ..)) hg56.1
  ·rcases List.mem_singleton.1 hi with rfl
   exact obj_see (hS5.items _ (List.mem_cons_of_mem _ (List.mem_cons_self ..))) hg56.2)
 refine wl_call wn rfl (rt_call (vs := [.slice a n c, .func (.func 123) #[] #[.pointer (some ⟨g5, 0, none⟩), .pointer (some ⟨g6, 0, none⟩)]]) co122 rfl) ((ok_slices_IndexFunc_Entry__impl_Seg_put_1 F) hlnd hseg.1 hl1 hl2 hr2 hx1) ?_
 rintro e7 w7 ⟨K7, rfl, hS7', hr7⟩
 refine ⟨_, rfl, ?_⟩
 have hS6 : SH w K MM w7 K ([obj g5 [sv p1_field] 9, obj g6 [sv p2_t.Text, .int .i64 p2_t.At] 46] ++ (obj g [.slice a1 n1 c1, .slice a n c] 30 :: segTop 94 a n c lay :: (lay).flatMap (ELay.items 48 3))) := hS5.lent (see_le hS5.holds) hS7' rfl (fun it hi => by
  rcases List.mem_cons.1 hi with rfl | hi
  ·exact obj_on (hS7'.items _ (List.mem_cons_self ..)) ((see_le hS5.holds).trans hS7'.le)
  ·rcases List.mem_singleton.1 hi with rfl
   exact obj_on (hS7'.items _ (List.mem_cons_of_mem _ (List.mem_cons_self ..))) ((see_le hS5.holds).trans hS7'.le))
 have hS7 : SH w K MM w7 K (obj g6 [sv p2_t.Text, .int .i64 p2_t.At] 46 :: obj g5 [sv p1_field] 9 :: obj g [.slice a1 n1 c1, .slice a n c] 30 :: segTop 94 a n c lay :: (lay).flatMap (ELay.items 48 3)) := hS6.perm (List.Perm.swap _ _ _)
 refine va rfl rfl ?_
 refine nsr ?_
 refine vm rfl rfl ?_
 refine wl_val wn rfl (rv_lss rfl rfl) ?_
 refine nq ?_
 refine wc_cutg (fun E' w' => ∃ (a2 : Option Addr) (n2 c2 : Nat) (lay2 : List ELay) (K2 : KMap), E' = [(0, .pointer (some ⟨g, 0, none⟩)), (3, .int .i64 p3_id), (6, .pointer (some ⟨g6, 0, none⟩)), (8, .int .i64 (cond (decide (k < 0)) (p0_s.Entries.length : Int) k))] ∧ SH w K MM w' K2 (obj g6 [sv p2_t.Text, .int .i64 p2_t.At] 46 :: obj g5 [sv p1_field] 9 :: obj g [.slice a1 n1 c1, .slice a2 n2 c2] 30 :: segTop 94 a2 n2 c2 lay2 :: (lay2).flatMap (ELay.items 48 3)) ∧ KLe K K2 ∧ LayOk lay2 es) ?_ ?_
 ·refine wc_cond rfl (fun hb => ?_) (fun hb => ?_)
  ·rw [hb] at hx2 ⊢
   simp only [cond_true] at hx2 ⊢
   refine sr ?_
   refine vm rfl rfl ?_
   refine wl_val wn rfl (rv_nilCheck rfl) ?_
   refine wl_val wn rfl (rv_fieldAddr ff30_1 rfl) ?_
   refine wl_val wn rfl (rv_loadm1 tf28 rfl (.tail _ (.tail _ (.head _))) hS7 rfl) ?_
   refine wl_val wn rfl (rv_lenRow Tryz.underlying28 rfl hseg.2) ?_
   refine va rfl rfl ?_
   refine nq ?_
   refine wc_held (fun w' => Holds K w' ∧ HasObj g5 [sv p1_field] w' ∧ HasObj g6 [sv p2_t.Text, .int .i64 p2_t.At] w') (fun w' => HasObj g [.slice a1 n1 c1, .slice a n c] w') 13 [(4, 10), (10, 13)] mixed ?_
   have hS8 := SH.drew hS7
   refine wg_val (i := 0) (listed' := #[true, false, false, false, false, false, false, false, false, false, false, false, false, false]) (fun _ => True) rfl (by kernel_rfl) (by repeat (first | exact pk_body | refine pk_then ?_ | refine pk_block ?_)) (by kernel_rfl) rfl (by kernel_rfl) (by kernel_rfl) rfl (.inl fun _ _ => trivial) ⟨⟨hS8.hasK (KLe.refl _), hS8.hasObj (.tail _ (.head _)), hS8.hasObj (.head _)⟩, (fun _ => hS8.hasObj (.tail _ (.tail _ (.head _)))), by decide⟩ wn rfl (fun _ _ => (rv_move rfl)) ?_
   refine wg_val (i := 1) (listed' := #[true, true, false, false, false, false, false, false, false, false, false, false, false, false]) (fun _ => True) rfl (by kernel_rfl) (by repeat (first | exact pk_body | refine pk_then ?_ | refine pk_block ?_)) (by kernel_rfl) rfl (by kernel_rfl) (by kernel_rfl) rfl (.inl fun _ _ => trivial) ⟨⟨hS8.hasK (KLe.refl _), hS8.hasObj (.tail _ (.head _)), hS8.hasObj (.head _)⟩, (fun _ => hS8.hasObj (.tail _ (.tail _ (.head _)))), by decide⟩ wn rfl (fun _ _ => (rv_move rfl)) ?_
   refine wg_val (i := 2) (listed' := #[true, true, true, false, false, false, false, false, false, false, false, false, false, false]) (fun _ => True) rfl (by kernel_rfl) (by repeat (first | exact pk_body | refine pk_then ?_ | refine pk_block ?_)) (by kernel_rfl) rfl (by kernel_rfl) (by kernel_rfl) rfl (.inl fun _ _ => trivial) ⟨⟨hS8.hasK (KLe.refl _), hS8.hasObj (.tail _ (.head _)), hS8.hasObj (.head _)⟩, (fun _ => hS8.hasObj (.tail _ (.tail _ (.head _)))), by decide⟩ wn rfl (fun _ _ => (rv_nilCheck rfl)) ?_
   refine wg_val (i := 3) (listed' := #[true, true, true, true, false, false, false, false, false, false, false, false, false, false]) (fun _ => True) rfl (by kernel_rfl) (by repeat (first | exact pk_body | refine pk_then ?_ | refine pk_block ?_)) (by kernel_rfl) rfl (by kernel_rfl) (by kernel_rfl) rfl (.inl fun _ _ => trivial) ⟨⟨hS8.hasK (KLe.refl _), hS8.hasObj (.tail _ (.head _)), hS8.hasObj (.head _)⟩, (fun _ => hS8.hasObj (.tail _ (.tail _ (.head _)))), by decide⟩ wn rfl (fun _ _ => (rv_fieldAddr ff30_1 rfl)) ?_
   refine wg_val (i := 4) (listed' := #[true, true, true, true, true, false, false, false, false, false, false, false, false, false]) (HasObj g [.slice a1 n1 c1, .slice a n c]) rfl (by kernel_rfl) (by repeat (first | exact pk_body | refine pk_then ?_ | refine pk_block ?_)) (by kernel_rfl) rfl (by kernel_rfl) (by kernel_rfl) rfl (.inr ⟨rfl, fun _ _ h => h⟩) ⟨⟨hS8.hasK (KLe.refl _), hS8.hasObj (.tail _ (.head _)), hS8.hasObj (.head _)⟩, (fun _ => hS8.hasObj (.tail _ (.tail _ (.head _)))), by decide⟩ wn rfl (fun _ h => rh_loadm1 tf28 rfl rfl h) ?_
   refine wg_val (i := 5) (listed' := #[true, true, true, true, true, true, false, false, false, false, false, false, false, false]) (HasObj g5 [sv p1_field]) rfl (by kernel_rfl) (by repeat (first | exact pk_body | refine pk_then ?_ | refine pk_block ?_)) (by kernel_rfl) rfl (by kernel_rfl) (by kernel_rfl) rfl (.inl fun _ h => h.2.1) ⟨⟨hS8.hasK (KLe.refl _), hS8.hasObj (.tail _ (.head _)), hS8.hasObj (.head _)⟩, (fun _ => hS8.hasObj (.tail _ (.tail _ (.head _)))), by decide⟩ wn rfl (fun _ h => rh_loadm1 tf9 rfl rfl h) ?_
   refine wg_val (i := 6) (listed' := #[true, true, true, true, true, true, true, false, false, false, false, false, false, false]) (fun _ => True) rfl (by kernel_rfl) (by repeat (first | exact pk_body | refine pk_then ?_ | refine pk_block ?_)) (by kernel_rfl) rfl (by kernel_rfl) (by kernel_rfl) rfl (.inl fun _ _ => trivial) ⟨⟨hS8.hasK (KLe.refl _), hS8.hasObj (.tail _ (.head _)), hS8.hasObj (.head _)⟩, (fun _ => hS8.hasObj (.tail _ (.tail _ (.head _)))), by decide⟩ wn rfl (fun _ _ => (rv_fieldAddr ff46_0 rfl)) ?_
   refine wg_val (i := 7) (listed' := #[true, true, true, true, true, true, true, true, false, false, false, false, false, false]) (HasObj g6 [sv p2_t.Text, .int .i64 p2_t.At]) rfl (by kernel_rfl) (by repeat (first | exact pk_body | refine pk_then ?_ | refine pk_block ?_)) (by kernel_rfl) rfl (by kernel_rfl) (by kernel_rfl) rfl (.inl fun _ h => h.2.2) ⟨⟨hS8.hasK (KLe.refl _), hS8.hasObj (.tail _ (.head _)), hS8.hasObj (.head _)⟩, (fun _ => hS8.hasObj (.tail _ (.tail _ (.head _)))), by decide⟩ wn rfl (fun _ h => rh_loadm1 tf9 rfl rfl h) ?_
   refine wg_val (i := 8) (listed' := #[true, true, true, true, true, true, true, true, true, false, false, false, false, false]) (fun _ => True) rfl (by kernel_rfl) (by repeat (first | exact pk_body | refine pk_then ?_ | refine pk_block ?_)) (by kernel_rfl) rfl (by kernel_rfl) (by kernel_rfl) rfl (.inl fun _ _ => trivial) ⟨⟨hS8.hasK (KLe.refl _), hS8.hasObj (.tail _ (.head _)), hS8.hasObj (.head _)⟩, (fun _ => hS8.hasObj (.tail _ (.tail _ (.head _)))), by decide⟩ wn rfl (fun _ _ => (rv_build (cs := #[sv p1_field, sv p2_t.Text, .slice none 0 0]) sp94 tf94 rfl (by kernel_rfl))) ?_
   refine wg_one (i := 9) (by kernel_rfl) rfl ?_
   refine wl_buildSlice (t := tRaw 3) (n := 1) (pv := [(0, .agg #[sv p1_field, sv p2_t.Text, .slice none 0 0])]) (cs := [sv p1_field, sv p2_t.Text, .slice none 0 0]) (xs := [([sv p1_field, sv p2_t.Text, .slice none 0 0] : List Value)]) wn rfl Tryz.underlying28 tf94 rfl rfl rfl (by kernel_rfl) rfl rfl (lit_cons (t := tRaw 3) (u := .agg #[sv p1_field, sv p2_t.Text, .slice none 0 0]) (z := ([sv p1_field, sv p2_t.Text, .slice none 0 0] : List Value)) ⟨rfl, rfl, by simp [Value.oneCell', sv]⟩ lit_nil) hS8 ?_
   intro a9 w9 K9 hl9 hs9 hS9'
   obtain ⟨b9, o9, rfl⟩ := raw_addr hs9
   have hk9 := raw_lit hs9
   have hS9 := hS9'.drop
   refine wl_nil (qe_held (listed' := #[true, true, true, true, true, true, true, true, true, true, false, false, false, false]) rfl ⟨⟨hS9.hasK hl9, hS9.hasObj (.tail _ (.head _)), hS9.hasObj (.head _)⟩, (fun _ => hS9.hasObj (.tail _ (.tail _ (.head _)))), by decide⟩ ?_)
   unfold catL at hx2
   split at hx2
   case isFalse => cases hx2
   rename_i hbd
   cases hx2
   have hnl : n = p0_s.Entries.length := hseg.2
   have hS9t : SH w K MM w9 K9 (rowI (.slice a n c) (lay.flatMap ELay.cells) 94 3 :: (obj g6 [sv p2_t.Text, .int .i64 p2_t.At] 46 :: obj g5 [sv p1_field] 9 :: obj g [.slice a1 n1 c1, .slice a n c] 30 :: (lay).flatMap (ELay.items 48 3))) := hS9.perm (List.perm_middle (l₁ := [_, _, _])).symm
   refine wg_one (i := 10) (by kernel_rfl) rfl ?_
   have hcl9 : (lay.flatMap ELay.cells).length = n * 3 := by rw [sg_cells3, ← sg_top_len hS9t (List.mem_cons_self ..)]
   refine wl_appendI wn rfl Tryz.underlying28 tf94 rfl rfl rfl (by decide) rfl hk9 (by simp [Value.oneCell', sv]) hcl9 (by simp at hbd; omega) (by simp at hbd; omega) hS9t ?_
   intro g10 c10 w10 hS10
   refine wl_nil (qe_held (listed' := #[true, true, true, true, true, true, true, true, true, true, true, false, false, false]) rfl ⟨⟨hS10.hasK hl9, hS10.hasObj (.tail _ (.tail _ (.head _))), hS10.hasObj (.tail _ (.head _))⟩, (fun _ => hS10.hasObj (.tail _ (.tail _ (.tail _ (.head _))))), by decide⟩ ?_)
   refine wg_val (i := 11) (listed' := #[true, true, true, true, true, true, true, true, true, true, true, true, false, false]) (fun _ => True) rfl (by kernel_rfl) (by repeat (first | exact pk_body | refine pk_then ?_ | refine pk_block ?_)) (by kernel_rfl) rfl (by kernel_rfl) (by kernel_rfl) rfl (.inl fun _ _ => trivial) ⟨⟨hS10.hasK hl9, hS10.hasObj (.tail _ (.tail _ (.head _))), hS10.hasObj (.tail _ (.head _))⟩, (fun _ => hS10.hasObj (.tail _ (.tail _ (.tail _ (.head _))))), by decide⟩ wn rfl (fun _ _ => (rv_nilCheck rfl)) ?_
   refine wg_val (i := 12) (listed' := #[true, true, true, true, true, true, true, true, true, true, true, true, true, false]) (fun _ => True) rfl (by kernel_rfl) (by repeat (first | exact pk_body | refine pk_then ?_ | refine pk_block ?_)) (by kernel_rfl) rfl (by kernel_rfl) (by kernel_rfl) rfl (.inl fun _ _ => trivial) ⟨⟨hS10.hasK hl9, hS10.hasObj (.tail _ (.tail _ (.head _))), hS10.hasObj (.tail _ (.head _))⟩, (fun _ => hS10.hasObj (.tail _ (.tail _ (.tail _ (.head _))))), by decide⟩ wn rfl (fun _ _ => (rv_fieldAddr ff30_1 rfl)) ?_
   refine wg_one (i := 13) (by kernel_rfl) rfl ?_
   have hS11 := SH.front (p := [_, _, _]) hS10
   refine wl_store (cs' := [.slice a1 n1 c1, .slice (some ⟨g10, 0, none⟩) (n + 1) c10]) (v := .slice (some ⟨g10, 0, none⟩) (n + 1) c10) wn tf28 rfl rfl rfl (by simp [Value.cells, Value.oneCell']) hS11 rfl rfl ?_
   intro w13 hS13
   refine wl_nil (qe_held (listed' := #[true, true, true, true, true, true, true, true, true, true, true, true, true, true]) rfl ⟨⟨hS13.hasK hl9, hS13.hasObj (.tail _ (.tail _ (.tail _ (.head _)))), hS13.hasObj (.tail _ (.tail _ (.head _)))⟩, (fun h => nomatch h), by decide⟩ ?_)
   refine wg_done (by kernel_rfl) ?_
   have hS14 := SH.rowNil hS13 48 2
   have hS15 : SH w K MM w13 K9 (obj g6 [sv p2_t.Text, .int .i64 p2_t.At] 46 :: obj g5 [sv p1_field] 9 :: obj g [.slice a1 n1 c1, .slice (some ⟨g10, 0, none⟩) (n + 1) c10] 30 :: segTop 94 (some ⟨g10, 0, none⟩) (n + 1) c10 (lay ++ [ELay.mk p1_field p2_t.Text [] none 0 0]) :: ((lay ++ [ELay.mk p1_field p2_t.Text [] none 0 0])).flatMap (ELay.items 48 3)) := by
    have e1 : (lay ++ [ELay.mk p1_field p2_t.Text [] none 0 0]).flatMap ELay.cells = lay.flatMap ELay.cells ++ [sv p1_field, sv p2_t.Text, .slice none 0 0] := by rw [List.flatMap_append]; rfl
    have e2 : ((lay ++ [ELay.mk p1_field p2_t.Text [] none 0 0])).flatMap (ELay.items 48 3) = (lay).flatMap (ELay.items 48 3) ++ [rowI (.slice none 0 0) [] 48 2] := by rw [List.flatMap_append]; rfl
    unfold segTop
    rw [e1, e2]
    refine hS14.perm ?_
    exact (show List.Perm ((_ :: _ :: _ :: _ :: (lay).flatMap (ELay.items 48 3)) ++ [_]) _ from List.perm_append_singleton _ _).trans (.cons _ (List.Perm.append_right ((lay).flatMap (ELay.items 48 3)) (List.perm_append_comm (l₁ := [_, _]) (l₂ := [_, _]))))
   refine qe_mid' ⟨_, _, _, _, K9, rfl, hS15, hl9, fun x hx => ?_, ?_⟩ ⟨rfl, rfl, rfl, rfl, trivial⟩
   ·rcases List.mem_append.1 hx with hx | hx
    ·exact hl0.1 x hx
    ·rcases List.mem_singleton.1 hx with rfl
     exact ⟨hl1, hl2, by simp⟩
   ·rw [List.map_append, hl0.2]; rfl
  ·rw [hb] at hx2 ⊢
   simp only [cond_false] at hx2 ⊢
   obtain rfl := oi hx2
   refine wc_skip ?_
   exact qe_mid' ⟨a, n, c, lay, K, rfl, hS7, .refl _, hl0⟩ ⟨rfl, rfl, rfl, rfl, trivial⟩
 rintro _ w15 ⟨a2, n2, c2, lay2, K2, rfl, hS20, hl20, hlay2⟩
 generalize hkk : (cond (decide (k < 0)) (p0_s.Entries.length : Int) k) = kk at *
 obtain ⟨hok2, hes⟩ := hlay2
 obtain ⟨el, hz2, hel⟩ := sg_getI_map (hes ▸ hx3 : getI (lay2.map ELay.x) kk = some en)
 obtain ⟨pre, post, hsplit, hpre, hk0⟩ := sg_split hz2
 have hn2 := sg_top_len hS20 (.tail _ (.tail _ (.tail _ (.head _))))
 have hn2e : n2 = es.length := by rw [← hes, List.length_map]; exact hn2
 obtain ⟨gE, rfl⟩ := SH.rowI_at hS20 (.tail _ (.tail _ (.tail _ (.head _)))) hn2 hz2
 obtain ⟨R, hR⟩ : ∃ R, R = ((pre).flatMap (ELay.items 48 3) ++ (post).flatMap (ELay.items 48 3)) := ⟨_, rfl⟩
 have hS21 : SH w K MM w15 K2 (obj g6 [sv p2_t.Text, .int .i64 p2_t.At] 46 :: obj g5 [sv p1_field] 9 :: obj g [.slice a1 n1 c1, .slice (some ⟨gE, 0, none⟩) n2 c2] 30 :: segTop 94 (some ⟨gE, 0, none⟩) n2 c2 (pre ++ el :: post) :: ELay.row 48 el :: (el.posts.map (PLay.item 3) ++ R)) := by
  rw [hR]
  have h7 := hS20
  rw [hsplit] at h7
  exact h7.perm ((List.Perm.append_left [_, _, _] (seg_focus (TE := 94) (TP := 48) (TI := 3))).symm)
 have helok : el.ok := hok2 el (by rw [hsplit]; simp)
 have hnP : el.n = el.posts.length := sg_row_len hS21 (.tail _ (.tail _ (.tail _ (.tail _ (.head _)))))
 have hhead := sg_head_at (pre := pre) (post := post) (e := el) (o := kk.toNat * 3 + 2) (by rw [hpre])
 have hpl : el.posts.length ≤ maxLen := rowI_max hS21 (.tail _ (.tail _ (.tail _ (.tail _ (.head _))))) hnP
 have henp : en.Posts = el.posts.map PLay.x := by rw [← hel]; rfl
 refine qr ?_
 refine vm rfl rfl ?_
 refine wl_val wn rfl (rv_nilCheck rfl) ?_
 refine wl_val wn rfl (rv_fieldAddr ff30_1 rfl) ?_
 refine wl_val wn rfl (rv_loadm1 tf28 rfl (.tail _ (.tail _ (.head _))) hS21 rfl) ?_
 refine vm rfl rfl ?_
 refine wl_val wn rfl (rv_indexI (t := tGEntry) Tryz.underlying28 tf94 rfl rfl rfl hn2e hx3) ?_
 refine va rfl rfl ?_
 refine nr ?_
 refine vm rfl rfl ?_
 refine wl_val wn rfl (rv_nilCheck rfl) ?_
 refine wl_val wn rfl (rv_fieldAddr ff94_2 rfl) ?_
 refine wl_val wn rfl (rh_loadI1 tf33 rfl rfl hhead rfl (hS21.hasRow (.tail _ (.tail _ (.tail _ (.head _)))))) ?_
 refine wl_val wn rfl (rv_lenRow Tryz.underlying33 rfl hnP) ?_
 refine wl_val wn rfl (rv_sub rfl rfl) ?_
 refine va rfl rfl ?_
 refine ns ?_
 refine wc_seq ?_
 refine wc_cutg (fun E' w' => E' = [(3, .int .i64 p3_id), (6, .pointer (some ⟨g6, 0, none⟩)), (9, .pointer (some ⟨gE, kk.toNat * tGEntry.size, none⟩)), (10, .int .i64 (w64 ((el.posts.length : Int) - 1))), (62, .bool (needPost en.Posts p3_id))] ∧ w' = w15) ?_ ?_
 ·refine wc_region ?_
  refine vm rfl rfl ?_
  refine wl_val wn rfl (rv_lss rfl rfl) ?_
  refine vm rfl rfl ?_
  rcases List.eq_nil_or_concat el.posts with hnil | ⟨ps0, p0, hcat⟩
  ·have hb : decide (w64 ((el.posts.length : Int) - 1) < 0) = true := by rw [sg_pred hpl, hnil]; rfl
   have hnp : needPost en.Posts p3_id = true := by rw [henp, hnil]; rfl
   rw [hnp]
   refine wl_un (ug rfl rfl hb) rfl ?_
   refine wl_un (ug rfl rfl hb) rfl ?_
   refine wl_un (ug rfl rfl hb) rfl ?_
   refine wl_un (ug rfl rfl hb) rfl ?_
   refine wl_un (ug rfl rfl hb) rfl ?_
   refine wl_un (ug rfl rfl hb) rfl ?_
   refine wl_un (ug rfl rfl hb) rfl ?_
   refine wl_un (ug rfl rfl hb) rfl ?_
   refine wl_un (ug rfl rfl hb) rfl ?_
   refine wl_un (ug rfl rfl hb) rfl ?_
   refine wl_val wn rfl (rv_pick_t (v := .bool true) rfl hb rfl) ?_
   refine wl_nil ?_
   exact qe_mid' ⟨rfl, rfl⟩ ⟨rfl, rfl, rfl, rfl, rfl, trivial⟩
  ·rw [List.concat_eq_append] at hcat
   have hlp : el.posts.length = ps0.length + 1 := by rw [hcat]; simp
   have hw : w64 ((el.posts.length : Int) - 1) = (ps0.length : Int) := by rw [sg_pred hpl, hlp]; omega
   have hb : decide (w64 ((el.posts.length : Int) - 1) < 0) = false := by rw [hw]; exact decide_eq_false (by omega)
   have hnp : needPost en.Posts p3_id = !(p0.doc == p3_id) := by rw [henp, hcat, List.map_append]; simp [needPost, PLay.x]
   rw [hnp]
   have hzp : getI en.Posts (w64 ((el.posts.length : Int) - 1)) = some p0.x := by rw [henp, hcat, List.map_append]; exact sg_last (by rw [← hcat, hw]; simp)
   have hnPe : el.n = en.Posts.length := by rw [henp, List.length_map]; exact hnP
   obtain ⟨gP, hgP⟩ := SH.rowI_at hS21 (.tail _ (.tail _ (.tail _ (.tail _ (.head _))))) hnPe hzp
   have hdoc : (el.posts.flatMap PLay.cells)[(w64 ((el.posts.length : Int) - 1)).toNat * 2 + 0]? = some (.int .i64 p0.doc) := by rw [hcat]; exact sg_post_at (k := 0) (by rw [← hcat, hw]; simp)
   refine wl_val (wg rfl rfl hb) rfl (rv_move rfl) ?_
   refine wl_val (wg rfl rfl hb) rfl (rv_nilCheck rfl) ?_
   refine wl_val (wg rfl rfl hb) rfl (rv_fieldAddr ff94_2 rfl) ?_
   refine wl_val (wg rfl rfl hb) rfl (rh_loadI1 tf33 rfl rfl hhead rfl (hS21.hasRow (.tail _ (.tail _ (.tail _ (.head _)))))) ?_
   refine wl_val (wg rfl rfl hb) rfl (rv_move rfl) ?_
   refine wl_val (wg rfl rfl hb) rfl (rv_indexI (t := tGPost) Tryz.underlying33 tf48 rfl rfl hgP hnPe hzp) ?_
   refine wl_val (wg rfl rfl hb) rfl (rv_fieldAddr ff48_0 rfl) ?_
   refine wl_val (wg rfl rfl hb) rfl (rh_loadI1 tf3 rfl rfl hdoc hgP (hS21.hasRow (.tail _ (.tail _ (.tail _ (.tail _ (.head _))))))) ?_
   refine wl_val (wg rfl rfl hb) rfl (rv_move rfl) ?_
   refine wl_val (wg rfl rfl hb) rfl (rv_neq rfl rfl) ?_
   refine wl_val wn rfl (rv_pick_f rfl hb rfl) ?_
   refine wl_nil ?_
   exact qe_mid' ⟨rfl, rfl⟩ ⟨rfl, rfl, rfl, rfl, rfl, trivial⟩
 rintro _ _ ⟨rfl, rfl⟩
 refine qe_seq ?_
 refine wc_cutg (fun E' w' => ∃ (el2 : ELay) (ps0 : List PLay) (pl : PLay) (K3 : KMap), E' = [(6, .pointer (some ⟨g6, 0, none⟩)), (9, .pointer (some ⟨gE, kk.toNat * tGEntry.size, none⟩)), (10, .int .i64 (ps0.length : Int))] ∧ SH w K MM w' K3 (obj g6 [sv p2_t.Text, .int .i64 p2_t.At] 46 :: obj g5 [sv p1_field] 9 :: obj g [.slice a1 n1 c1, .slice (some ⟨gE, 0, none⟩) n2 c2] 30 :: segTop 94 (some ⟨gE, 0, none⟩) n2 c2 (pre ++ el2 :: post) :: ELay.row 48 el2 :: (pl.item 3 :: (ps0.map (PLay.item 3) ++ R))) ∧ KLe K K3 ∧ el2.ok ∧ el2.field = el.field ∧ el2.term = el.term ∧ el2.posts = ps0 ++ [pl] ∧ ps = el2.posts.map PLay.x) ?_ ?_
 ·refine wc_cond rfl (fun hb => ?_) (fun hb => ?_)
  ·rw [hb] at hx4
   simp only [cond_true] at hx4
   refine sr ?_
   refine vm rfl rfl ?_
   refine vm rfl rfl ?_
   refine wl_val wn rfl (rv_nilCheck rfl) ?_
   refine wl_val wn rfl (rv_fieldAddr ff94_2 rfl) ?_
   refine wl_val wn rfl (rh_loadI1 tf33 rfl rfl hhead rfl (hS21.hasRow (.tail _ (.tail _ (.tail _ (.head _)))))) ?_
   refine vm rfl rfl ?_
   refine wl_val wn rfl (rv_build (cs := #[.int .i64 p3_id, .slice none 0 0]) sp48 tf48 rfl (by kernel_rfl)) ?_
   refine wl_buildSlice (t := tRaw 2) (n := 1) (pv := [(0, .agg #[.int .i64 p3_id, .slice none 0 0])]) (cs := [.int .i64 p3_id, .slice none 0 0]) (xs := [([.int .i64 p3_id, .slice none 0 0] : List Value)]) wn rfl Tryz.underlying33 tf48 rfl rfl rfl (by kernel_rfl) rfl rfl (lit_cons (t := tRaw 2) (u := .agg #[.int .i64 p3_id, .slice none 0 0]) (z := ([.int .i64 p3_id, .slice none 0 0] : List Value)) ⟨rfl, rfl, by simp [Value.oneCell']⟩ lit_nil) hS21 ?_
   intro a22 w22 K22 hl22 hs22 hS22'
   obtain ⟨b22, o22, rfl⟩ := raw_addr hs22
   have hk22 := raw_lit hs22
   have hS22 := hS22'.drop
   unfold catL at hx4
   split at hx4
   case isFalse => cases hx4
   rename_i hbd
   cases hx4
   have hbd2 : (el.n + 1) * 32 ≤ 140737488355328 := by rw [henp] at hbd; simp at hbd; rw [hnP]; exact hbd
   have hS23 := SH.front (p := [_, _, _, _]) hS22
   refine wl_appendI wn rfl Tryz.underlying33 tf48 rfl rfl rfl (by decide) rfl hk22 (by simp [Value.oneCell']) (by rw [sg_cells2, hnP]) (by omega) hbd2 hS23 ?_
   intro g24 c24 w24 hS24
   refine wl_val wn rfl (rv_nilCheck rfl) ?_
   refine wl_val wn rfl (rv_fieldAddr ff94_2 rfl) ?_
   have hS25 := SH.front (p := [_, _, _, _]) hS24
   refine wl_storeC wn tf33 rfl rfl rfl hS25 (by have := (List.getElem?_eq_some_iff.1 hhead).1; exact this) ?_
   intro w26 hS26
   refine nq ?_
   refine wc_region ?_
   refine vm rfl rfl ?_
   refine wl_val wn rfl (rv_add rfl rfl) ?_
   refine wl_val wn rfl (rv_as rfl (congrArg (Value.int .i64) (sg_back hpl))) ?_
   refine wl_nil ?_
   obtain ⟨el2, hel2⟩ : ∃ el2 : ELay, el2 = ⟨el.field, el.term, el.posts ++ [⟨p3_id, [], none, 0, 0⟩], some ⟨g24, 0, none⟩, el.n + 1, c24⟩ := ⟨_, rfl⟩
   have hset := sg_head_set (pre := pre) (post := post) (e := el) (e' := el2) (o := kk.toNat * 3 + 2) (by rw [hpre]) (by rw [hel2]) (by rw [hel2])
   have hS27 : SH w K MM w26 K22 (rowI (.slice (some ⟨gE, 0, none⟩) n2 c2) ((pre ++ el2 :: post).flatMap ELay.cells) 94 3 :: ELay.row 48 el2 :: obj g6 [sv p2_t.Text, .int .i64 p2_t.At] 46 :: obj g5 [sv p1_field] 9 :: obj g [.slice a1 n1 c1, .slice (some ⟨gE, 0, none⟩) n2 c2] 30 :: (el.posts.map (PLay.item 3) ++ R)) := by
    have e1 : el2.posts.flatMap PLay.cells = el.posts.flatMap PLay.cells ++ [.int .i64 p3_id, .slice none 0 0] := by rw [hel2, List.flatMap_append]; rfl
    have e2 : el2.a = some ⟨g24, 0, none⟩ := by rw [hel2]
    have e3 : el2.n = el.n + 1 := by rw [hel2]
    have e4 : el2.c = c24 := by rw [hel2]
    rw [← hset]
    unfold ELay.row
    rw [e1, e2, e3, e4]
    exact hS26
   have hS28 := SH.rowNil hS27 3 1
   refine qe_mid' ⟨el2, el.posts, ⟨p3_id, [], none, 0, 0⟩, K22, rfl, hS28.perm ?_, hl20.trans hl22, ?_, by rw [hel2], by rw [hel2], by rw [hel2], ?_⟩ ⟨rfl, rfl, rfl, trivial⟩
   ·exact (List.Perm.append_left [_, _, _, _, _] (List.Perm.refl _)).trans ((List.perm_middle (l₁ := [_, _, _, _, _])).trans (.cons _ (List.Perm.append_right _ (List.perm_append_comm (l₁ := [_, _, _]) (l₂ := [_, _])))))
   ·rw [hel2]
    refine ⟨helok.1, helok.2.1, fun q hq => ?_⟩
    rcases List.mem_append.1 hq with hq | hq
    ·exact helok.2.2 q hq
    ·rcases List.mem_singleton.1 hq with rfl
     exact ⟨hr3, by simp⟩
   ·rw [hel2, henp, List.map_append]; rfl
  ·rw [hb] at hx4
   simp only [cond_false] at hx4
   obtain rfl := oi hx4
   refine wc_skip ?_
   rcases List.eq_nil_or_concat el.posts with hnil | ⟨ps0, p0, hcat⟩
   ·rw [henp, hnil] at hb; cases hb
   rw [List.concat_eq_append] at hcat
   have hlp : el.posts.length = ps0.length + 1 := by rw [hcat]; simp
   have hw : w64 ((el.posts.length : Int) - 1) = (ps0.length : Int) := by rw [sg_pred hpl, hlp]; omega
   rw [hw]
   refine qe_mid' ⟨el, ps0, p0, K2, rfl, ?_, hl20, helok, rfl, rfl, hcat, henp⟩ ⟨rfl, rfl, rfl, trivial⟩
   have h7 := hS21
   rw [hcat] at h7
   exact h7.perm (List.Perm.append_left [_, _, _, _, _] (post_focus (TI := 3)).symm)
 rintro _ w30 ⟨el2, ps0, pl, K3, rfl, hS30, hl30, hel2ok, hf2, ht2, hcat2, hps⟩
 refine qe_seq ?_
 have hpx : p = pl.x := by rw [hps, hcat2, List.map_append] at hx5; simp at hx5; exact hx5.symm
 have hn30 : el2.n = el2.posts.length := sg_row_len hS30 (.tail _ (.tail _ (.tail _ (.tail _ (.head _)))))
 have hz30 : getI el2.posts (ps0.length : Int) = some pl := by rw [hcat2]; exact sg_last rfl
 obtain ⟨gP, hgP⟩ := SH.rowI_at hS30 (.tail _ (.tail _ (.tail _ (.tail _ (.head _))))) hn30 hz30
 have hpn : pl.n = pl.at_.length := sg_item_len hS30 (.tail _ (.tail _ (.tail _ (.tail _ (.tail _ (.head _))))))
 have hhead2 := sg_head_at (pre := pre) (post := post) (e := el2) (o := kk.toNat * 3 + 2) (by rw [hpre])
 have hz31 : getI (el2.posts.map PLay.x) (ps0.length : Int) = some pl.x := by rw [hcat2, List.map_append]; exact sg_last (by simp)
 have hn31 : el2.n = (el2.posts.map PLay.x).length := by rw [List.length_map]; exact hn30
 have hat : (el2.posts.flatMap PLay.cells)[(ps0.length : Int).toNat * 2 + 1]? = some (.slice pl.a pl.n pl.c) := by rw [hcat2]; exact sg_post_at (k := 1) (by simp)
 refine wc_held (fun w' => Holds K3 w' ∧ HasRow (some ⟨gE, 0, none⟩) ((pre ++ el2 :: post).flatMap ELay.cells) w' ∧ HasObj g6 [sv p2_t.Text, .int .i64 p2_t.At] w') (fun w' => HasRow el2.a (el2.posts.flatMap PLay.cells) w') 19 [(12, 16), (16, 19)] mixed ?_
 have hS31 := SH.drew hS30
 refine wg_val (i := 0) (listed' := #[true, false, false, false, false, false, false, false, false, false, false, false, false, false, false, false, false, false, false, false]) (fun _ => True) rfl (by kernel_rfl) (by repeat (first | exact pk_body | refine pk_then ?_ | refine pk_block ?_)) (by kernel_rfl) rfl (by kernel_rfl) (by kernel_rfl) rfl (.inl fun _ _ => trivial) ⟨⟨hS31.hasK (KLe.refl _), hS31.hasRow (.tail _ (.tail _ (.tail _ (.head _)))), hS31.hasObj (.head _)⟩, (fun _ => hS31.hasRow (.tail _ (.tail _ (.tail _ (.tail _ (.head _)))))), by decide⟩ wn rfl (fun _ _ => (rv_move rfl)) ?_
 refine wg_val (i := 1) (listed' := #[true, true, false, false, false, false, false, false, false, false, false, false, false, false, false, false, false, false, false, false]) (fun _ => True) rfl (by kernel_rfl) (by repeat (first | exact pk_body | refine pk_then ?_ | refine pk_block ?_)) (by kernel_rfl) rfl (by kernel_rfl) (by kernel_rfl) rfl (.inl fun _ _ => trivial) ⟨⟨hS31.hasK (KLe.refl _), hS31.hasRow (.tail _ (.tail _ (.tail _ (.head _)))), hS31.hasObj (.head _)⟩, (fun _ => hS31.hasRow (.tail _ (.tail _ (.tail _ (.tail _ (.head _)))))), by decide⟩ wn rfl (fun _ _ => (rv_nilCheck rfl)) ?_
 refine wg_val (i := 2) (listed' := #[true, true, true, false, false, false, false, false, false, false, false, false, false, false, false, false, false, false, false, false]) (fun _ => True) rfl (by kernel_rfl) (by repeat (first | exact pk_body | refine pk_then ?_ | refine pk_block ?_)) (by kernel_rfl) rfl (by kernel_rfl) (by kernel_rfl) rfl (.inl fun _ _ => trivial) ⟨⟨hS31.hasK (KLe.refl _), hS31.hasRow (.tail _ (.tail _ (.tail _ (.head _)))), hS31.hasObj (.head _)⟩, (fun _ => hS31.hasRow (.tail _ (.tail _ (.tail _ (.tail _ (.head _)))))), by decide⟩ wn rfl (fun _ _ => (rv_fieldAddr ff94_2 rfl)) ?_
 refine wg_val (i := 3) (listed' := #[true, true, true, true, false, false, false, false, false, false, false, false, false, false, false, false, false, false, false, false]) (HasRow (some ⟨gE, 0, none⟩) ((pre ++ el2 :: post).flatMap ELay.cells)) rfl (by kernel_rfl) (by repeat (first | exact pk_body | refine pk_then ?_ | refine pk_block ?_)) (by kernel_rfl) rfl (by kernel_rfl) (by kernel_rfl) rfl (.inl fun _ h => h.2.1) ⟨⟨hS31.hasK (KLe.refl _), hS31.hasRow (.tail _ (.tail _ (.tail _ (.head _)))), hS31.hasObj (.head _)⟩, (fun _ => hS31.hasRow (.tail _ (.tail _ (.tail _ (.tail _ (.head _)))))), by decide⟩ wn rfl (fun _ h => rh_loadI1 tf33 rfl rfl hhead2 rfl h) ?_
 refine wg_val (i := 4) (listed' := #[true, true, true, true, true, false, false, false, false, false, false, false, false, false, false, false, false, false, false, false]) (fun _ => True) rfl (by kernel_rfl) (by repeat (first | exact pk_body | refine pk_then ?_ | refine pk_block ?_)) (by kernel_rfl) rfl (by kernel_rfl) (by kernel_rfl) rfl (.inl fun _ _ => trivial) ⟨⟨hS31.hasK (KLe.refl _), hS31.hasRow (.tail _ (.tail _ (.tail _ (.head _)))), hS31.hasObj (.head _)⟩, (fun _ => hS31.hasRow (.tail _ (.tail _ (.tail _ (.tail _ (.head _)))))), by decide⟩ wn rfl (fun _ _ => (rv_move rfl)) ?_
 refine wg_val (i := 5) (listed' := #[true, true, true, true, true, true, false, false, false, false, false, false, false, false, false, false, false, false, false, false]) (fun _ => True) rfl (by kernel_rfl) (by repeat (first | exact pk_body | refine pk_then ?_ | refine pk_block ?_)) (by kernel_rfl) rfl (by kernel_rfl) (by kernel_rfl) rfl (.inl fun _ _ => trivial) ⟨⟨hS31.hasK (KLe.refl _), hS31.hasRow (.tail _ (.tail _ (.tail _ (.head _)))), hS31.hasObj (.head _)⟩, (fun _ => hS31.hasRow (.tail _ (.tail _ (.tail _ (.tail _ (.head _)))))), by decide⟩ wn rfl (fun _ _ => (rv_move rfl)) ?_
 refine wg_val (i := 6) (listed' := #[true, true, true, true, true, true, true, false, false, false, false, false, false, false, false, false, false, false, false, false]) (fun _ => True) rfl (by kernel_rfl) (by repeat (first | exact pk_body | refine pk_then ?_ | refine pk_block ?_)) (by kernel_rfl) rfl (by kernel_rfl) (by kernel_rfl) rfl (.inl fun _ _ => trivial) ⟨⟨hS31.hasK (KLe.refl _), hS31.hasRow (.tail _ (.tail _ (.tail _ (.head _)))), hS31.hasObj (.head _)⟩, (fun _ => hS31.hasRow (.tail _ (.tail _ (.tail _ (.tail _ (.head _)))))), by decide⟩ wn rfl (fun _ _ => (rv_nilCheck rfl)) ?_
 refine wg_val (i := 7) (listed' := #[true, true, true, true, true, true, true, true, false, false, false, false, false, false, false, false, false, false, false, false]) (fun _ => True) rfl (by kernel_rfl) (by repeat (first | exact pk_body | refine pk_then ?_ | refine pk_block ?_)) (by kernel_rfl) rfl (by kernel_rfl) (by kernel_rfl) rfl (.inl fun _ _ => trivial) ⟨⟨hS31.hasK (KLe.refl _), hS31.hasRow (.tail _ (.tail _ (.tail _ (.head _)))), hS31.hasObj (.head _)⟩, (fun _ => hS31.hasRow (.tail _ (.tail _ (.tail _ (.tail _ (.head _)))))), by decide⟩ wn rfl (fun _ _ => (rv_fieldAddr ff94_2 rfl)) ?_
 refine wg_val (i := 8) (listed' := #[true, true, true, true, true, true, true, true, true, false, false, false, false, false, false, false, false, false, false, false]) (HasRow (some ⟨gE, 0, none⟩) ((pre ++ el2 :: post).flatMap ELay.cells)) rfl (by kernel_rfl) (by repeat (first | exact pk_body | refine pk_then ?_ | refine pk_block ?_)) (by kernel_rfl) rfl (by kernel_rfl) (by kernel_rfl) rfl (.inl fun _ h => h.2.1) ⟨⟨hS31.hasK (KLe.refl _), hS31.hasRow (.tail _ (.tail _ (.tail _ (.head _)))), hS31.hasObj (.head _)⟩, (fun _ => hS31.hasRow (.tail _ (.tail _ (.tail _ (.tail _ (.head _)))))), by decide⟩ wn rfl (fun _ h => rh_loadI1 tf33 rfl rfl hhead2 rfl h) ?_
 refine wg_val (i := 9) (listed' := #[true, true, true, true, true, true, true, true, true, true, false, false, false, false, false, false, false, false, false, false]) (fun _ => True) rfl (by kernel_rfl) (by repeat (first | exact pk_body | refine pk_then ?_ | refine pk_block ?_)) (by kernel_rfl) rfl (by kernel_rfl) (by kernel_rfl) rfl (.inl fun _ _ => trivial) ⟨⟨hS31.hasK (KLe.refl _), hS31.hasRow (.tail _ (.tail _ (.tail _ (.head _)))), hS31.hasObj (.head _)⟩, (fun _ => hS31.hasRow (.tail _ (.tail _ (.tail _ (.tail _ (.head _)))))), by decide⟩ wn rfl (fun _ _ => (rv_move rfl)) ?_
 refine wg_val (i := 10) (listed' := #[true, true, true, true, true, true, true, true, true, true, true, false, false, false, false, false, false, false, false, false]) (fun _ => True) rfl (by kernel_rfl) (by repeat (first | exact pk_body | refine pk_then ?_ | refine pk_block ?_)) (by kernel_rfl) rfl (by kernel_rfl) (by kernel_rfl) rfl (.inl fun _ _ => trivial) ⟨⟨hS31.hasK (KLe.refl _), hS31.hasRow (.tail _ (.tail _ (.tail _ (.head _)))), hS31.hasObj (.head _)⟩, (fun _ => hS31.hasRow (.tail _ (.tail _ (.tail _ (.tail _ (.head _)))))), by decide⟩ wn rfl (fun _ _ => (rv_indexI (t := tGPost) Tryz.underlying33 tf48 rfl rfl hgP hn31 hz31)) ?_
 refine wg_val (i := 11) (listed' := #[true, true, true, true, true, true, true, true, true, true, true, true, false, false, false, false, false, false, false, false]) (fun _ => True) rfl (by kernel_rfl) (by repeat (first | exact pk_body | refine pk_then ?_ | refine pk_block ?_)) (by kernel_rfl) rfl (by kernel_rfl) (by kernel_rfl) rfl (.inl fun _ _ => trivial) ⟨⟨hS31.hasK (KLe.refl _), hS31.hasRow (.tail _ (.tail _ (.tail _ (.head _)))), hS31.hasObj (.head _)⟩, (fun _ => hS31.hasRow (.tail _ (.tail _ (.tail _ (.tail _ (.head _)))))), by decide⟩ wn rfl (fun _ _ => (rv_fieldAddr ff48_1 rfl)) ?_
 refine wg_val (i := 12) (listed' := #[true, true, true, true, true, true, true, true, true, true, true, true, true, false, false, false, false, false, false, false]) (HasRow el2.a (el2.posts.flatMap PLay.cells)) rfl (by kernel_rfl) (by repeat (first | exact pk_body | refine pk_then ?_ | refine pk_block ?_)) (by kernel_rfl) rfl (by kernel_rfl) (by kernel_rfl) rfl (.inr ⟨rfl, fun _ _ h => h⟩) ⟨⟨hS31.hasK (KLe.refl _), hS31.hasRow (.tail _ (.tail _ (.tail _ (.head _)))), hS31.hasObj (.head _)⟩, (fun _ => hS31.hasRow (.tail _ (.tail _ (.tail _ (.tail _ (.head _)))))), by decide⟩ wn rfl (fun _ h => rh_loadI1 tf37 rfl rfl hat hgP h) ?_
 refine wg_val (i := 13) (listed' := #[true, true, true, true, true, true, true, true, true, true, true, true, true, true, false, false, false, false, false, false]) (fun _ => True) rfl (by kernel_rfl) (by repeat (first | exact pk_body | refine pk_then ?_ | refine pk_block ?_)) (by kernel_rfl) rfl (by kernel_rfl) (by kernel_rfl) rfl (.inl fun _ _ => trivial) ⟨⟨hS31.hasK (KLe.refl _), hS31.hasRow (.tail _ (.tail _ (.tail _ (.head _)))), hS31.hasObj (.head _)⟩, (fun _ => hS31.hasRow (.tail _ (.tail _ (.tail _ (.tail _ (.head _)))))), by decide⟩ wn rfl (fun _ _ => (rv_fieldAddr ff46_1 rfl)) ?_
 refine wg_val (i := 14) (listed' := #[true, true, true, true, true, true, true, true, true, true, true, true, true, true, true, false, false, false, false, false]) (HasObj g6 [sv p2_t.Text, .int .i64 p2_t.At]) rfl (by kernel_rfl) (by repeat (first | exact pk_body | refine pk_then ?_ | refine pk_block ?_)) (by kernel_rfl) rfl (by kernel_rfl) (by kernel_rfl) rfl (.inl fun _ h => h.2.2) ⟨⟨hS31.hasK (KLe.refl _), hS31.hasRow (.tail _ (.tail _ (.tail _ (.head _)))), hS31.hasObj (.head _)⟩, (fun _ => hS31.hasRow (.tail _ (.tail _ (.tail _ (.tail _ (.head _)))))), by decide⟩ wn rfl (fun _ h => rh_loadm1 tf3 rfl rfl h) ?_
 refine wg_one (i := 15) (by kernel_rfl) rfl ?_
 refine wl_buildSlice (t := tInt) (n := 1) (pv := [(0, .int .i64 p2_t.At)]) (cs := [.int .i64 p2_t.At]) (xs := [p2_t.At]) wn rfl Tryz.underlying37 tf3 rfl rfl rfl (by kernel_rfl) rfl rfl (lit_cons (u := .int .i64 p2_t.At) (z := p2_t.At) ⟨rfl, hr2⟩ lit_nil) hS31 ?_
 intro a35 w35 K35 hl35 hs35 hS35'
 obtain ⟨b35, o35, rfl⟩ := sg_addr hs35
 have hk35 := int_lit hs35
 have hS35 := hS35'.drop
 refine wl_nil (qe_held (listed' := #[true, true, true, true, true, true, true, true, true, true, true, true, true, true, true, true, false, false, false, false]) rfl ⟨⟨hS35.hasK hl35, hS35.hasRow (.tail _ (.tail _ (.tail _ (.head _)))), hS35.hasObj (.head _)⟩, (fun _ => hS35.hasRow (.tail _ (.tail _ (.tail _ (.tail _ (.head _)))))), by decide⟩ ?_)
 refine wg_one (i := 16) (by kernel_rfl) rfl ?_
 unfold catL at hx6
 split at hx6
 case isFalse => cases hx6
 rename_i hbd
 cases hx6
 have hbd2 : (pl.n + 1) * 8 ≤ 140737488355328 := by rw [hpx] at hbd; simp [PLay.x] at hbd; rw [hpn]; exact hbd
 have hS36 := SH.front (p := [_, _, _, _, _]) hS35
 refine wl_appendI wn rfl Tryz.underlying37 tf3 rfl rfl rfl (by decide) rfl hk35 (by simp [Value.oneCell']) (by rw [List.length_map, hpn, Nat.mul_one]) (by omega) hbd2 hS36 ?_
 intro g37 c37 w37 hS37
 refine wl_nil (qe_held (listed' := #[true, true, true, true, true, true, true, true, true, true, true, true, true, true, true, true, true, false, false, false]) rfl ⟨⟨hS37.hasK hl35, hS37.hasRow (.tail _ (.tail _ (.tail _ (.tail _ (.head _))))), hS37.hasObj (.tail _ (.head _))⟩, (fun _ => hS37.hasRow (.tail _ (.tail _ (.tail _ (.tail _ (.tail _ (.head _))))))), by decide⟩ ?_)
 refine wg_val (i := 17) (listed' := #[true, true, true, true, true, true, true, true, true, true, true, true, true, true, true, true, true, true, false, false]) (fun _ => True) rfl (by kernel_rfl) (by repeat (first | exact pk_body | refine pk_then ?_ | refine pk_block ?_)) (by kernel_rfl) rfl (by kernel_rfl) (by kernel_rfl) rfl (.inl fun _ _ => trivial) ⟨⟨hS37.hasK hl35, hS37.hasRow (.tail _ (.tail _ (.tail _ (.tail _ (.head _))))), hS37.hasObj (.tail _ (.head _))⟩, (fun _ => hS37.hasRow (.tail _ (.tail _ (.tail _ (.tail _ (.tail _ (.head _))))))), by decide⟩ wn rfl (fun _ _ => (rv_indexI (t := tGPost) Tryz.underlying33 tf48 rfl rfl hgP hn31 hz31)) ?_
 refine wg_val (i := 18) (listed' := #[true, true, true, true, true, true, true, true, true, true, true, true, true, true, true, true, true, true, true, false]) (fun _ => True) rfl (by kernel_rfl) (by repeat (first | exact pk_body | refine pk_then ?_ | refine pk_block ?_)) (by kernel_rfl) rfl (by kernel_rfl) (by kernel_rfl) rfl (.inl fun _ _ => trivial) ⟨⟨hS37.hasK hl35, hS37.hasRow (.tail _ (.tail _ (.tail _ (.tail _ (.head _))))), hS37.hasObj (.tail _ (.head _))⟩, (fun _ => hS37.hasRow (.tail _ (.tail _ (.tail _ (.tail _ (.tail _ (.head _))))))), by decide⟩ wn rfl (fun _ _ => (rv_fieldAddr ff48_1 rfl)) ?_
 refine wg_one (i := 19) (by kernel_rfl) rfl ?_
 obtain ⟨fl2, tm2, po2, a2', m2', c2'⟩ := el2
 simp only at hgP hat hcat2 hf2 ht2 hn30
 subst hgP
 have hS38 := SH.front (p := [_, _, _, _, _]) hS37
 refine wl_storeC wn tf37 rfl rfl rfl hS38 (by have := (List.getElem?_eq_some_iff.1 hat).1; exact this) ?_
 intro w39 hS39
 refine wl_nil (qe_held (listed' := #[true, true, true, true, true, true, true, true, true, true, true, true, true, true, true, true, true, true, true, true]) rfl ⟨⟨hS39.hasK hl35, hS39.hasRow (.tail _ (.tail _ (.tail _ (.tail _ (.tail _ (.head _)))))), hS39.hasObj (.tail _ (.tail _ (.head _)))⟩, (fun h => nomatch h), by decide⟩ ?_)
 refine wg_done (by kernel_rfl) ?_
 subst hR
 subst hcat2
 obtain ⟨pl2, hpl2⟩ : ∃ pl2 : PLay, pl2 = ⟨pl.doc, pl.at_ ++ [p2_t.At], some ⟨g37, 0, none⟩, pl.n + 1, c37⟩ := ⟨_, rfl⟩
 obtain ⟨el3, hel3⟩ : ∃ el3 : ELay, el3 = ⟨fl2, tm2, ps0 ++ [pl2], some ⟨gP, 0, none⟩, m2', c2'⟩ := ⟨_, rfl⟩
 have hS40 : SH w K MM w39 K35 (ELay.row 48 el3 :: pl2.item 3 :: obj g6 [sv p2_t.Text, .int .i64 p2_t.At] 46 :: obj g5 [sv p1_field] 9 :: obj g [.slice a1 n1 c1, .slice (some ⟨gE, 0, none⟩) n2 c2] 30 :: segTop 94 (some ⟨gE, 0, none⟩) n2 c2 (pre ++ el3 :: post) :: (ps0.map (PLay.item 3) ++ ((pre).flatMap (ELay.items 48 3) ++ (post).flatMap (ELay.items 48 3)))) := by
  have e1 := sg_post_set (ps := ps0) (p := pl) (p' := pl2) (o := (ps0.length : Int).toNat * 2 + 1) (by simp) (by rw [hpl2])
  have e2 : pl2.a = some ⟨g37, 0, none⟩ := by rw [hpl2]
  have e3 : pl2.n = pl.n + 1 := by rw [hpl2]
  have e4 : pl2.c = c37 := by rw [hpl2]
  have e5 : pl2.at_.map intC = pl.at_.map intC ++ [.int .i64 p2_t.At] := by rw [hpl2, List.map_append]; rfl
  have e6 : (pre ++ el3 :: post).flatMap ELay.cells = (pre ++ ⟨fl2, tm2, ps0 ++ [pl], some ⟨gP, 0, none⟩, m2', c2'⟩ :: post).flatMap ELay.cells := by rw [hel3, List.flatMap_append, List.flatMap_append, List.flatMap_cons, List.flatMap_cons]; rfl
  have e7 : ELay.row 48 el3 = rowI (.slice (some ⟨gP, 0, none⟩) m2' c2') ((ps0 ++ [pl2]).flatMap PLay.cells) 48 2 := by rw [hel3]; rfl
  rw [e7, ← e1]
  unfold segTop
  rw [e6]
  show SH w K MM w39 K35 (_ :: rowI (.slice pl2.a pl2.n pl2.c) (pl2.at_.map intC) 3 1 :: _)
  rw [e2, e3, e4, e5]
  exact hS39
 have hS41 := hS40.sublist (.cons_cons _ (.cons_cons _ (.cons _ (.cons _ (List.Sublist.refl _)))))
 have hpo3 : el3.posts = ps0 ++ [pl2] := by rw [hel3]
 have hS42 : SH w K MM w39 K35 (segItems 94 48 3 (some ⟨gE, 0, none⟩) n2 c2 (pre ++ el3 :: post) ++ [obj g [.slice a1 n1 c1, .slice (some ⟨gE, 0, none⟩) n2 c2] 30]) := by
  refine hS41.perm ((List.perm_append_singleton _ _).trans ((List.Perm.cons _ (seg_focus (TE := 94) (TP := 48) (TI := 3))).trans ?_))
  rw [hpo3]
  refine (List.Perm.append_left [_, _, _] (post_focus (TI := 3))).trans ?_
  exact List.Perm.append_right _ (List.perm_append_comm (l₁ := [_, _]) (l₂ := [_, _]))
 have hS43 := hS42.packUp.perm (List.Perm.swap _ _ _)
 refine qe_ret_normal ?_
 refine qe_ret (vs := []) Tryz.results71 trivial ⟨a1, n1, c1, some ⟨gE, 0, none⟩, n2, c2, pre ++ el3 :: post, K35, rfl, hS43, hs1.mono (hl30.trans hl35), ?_, ?_⟩
 ·intro x hx
  rw [hsplit] at hok2
  rcases List.mem_append.1 hx with hx | hx
  ·exact hok2 x (List.mem_append_left _ hx)
  rcases List.mem_cons.1 hx with rfl | hx
  ·rw [hel3, hpl2]
   refine ⟨hel2ok.1, hel2ok.2.1, fun q hq => ?_⟩
   rcases List.mem_append.1 hq with hq | hq
   ·exact hel2ok.2.2 q (List.mem_append_left _ hq)
   ·rcases List.mem_singleton.1 hq with rfl
    have h8 := hel2ok.2.2 pl (List.mem_append_right _ (List.mem_singleton.2 rfl))
    refine ⟨h8.1, fun z hz => ?_⟩
    rcases List.mem_append.1 hz with hz | hz
    ·exact h8.2 z hz
    ·rcases List.mem_singleton.1 hz with rfl
     exact hr2
  ·exact hok2 x (List.mem_append_right _ (List.mem_cons_of_mem _ hx))
 ·show _ = es.set kk.toNat _
  rw [← hes, hsplit, List.map_append, List.map_cons, List.map_append, List.map_cons, List.set_append_right _ _ (by rw [List.length_map, hpre]; exact Nat.le_refl _), List.length_map, hpre, Nat.sub_self, List.set_cons_zero]
  have e1 : el3.x = GEntry.mk en.Field en.Term (ps.dropLast ++ [GPost.mk p.Doc (p.At ++ [p2_t.At])]) := by
   rw [hel3, hps, hpx, hpl2, ← hel]
   simp [ELay.x, PLay.x, hf2, ht2]
  rw [e1]

theorem ok_cmp_Or_int (F : Nat) {w : World} {K : KMap} {a1 : Option Addr} {n2 c3 : Nat} {p0_vals : List Int} {r : Int} (hS : SH w K [] w K []) (hs4 : SliceAt tInt K a1 n2 c3 p0_vals) (hm : M.cmp_Or_int F p0_vals = some r) :
  Calls Tryz.prog 74 #[.slice a1 n2 c3] w fun e w' => ∃ (K' : KMap), e = .returned (.int .i64 r) ∧ SH w K [] w' K' [] ∧ rng64 r := by
 rw [M.cmp_Or_int] at hm
 refine calls_in Tryz.func74 rfl Tryz.ntmps74 rfl ?_
 refine sr ?_
 refine wl_val wn rfl (rv_assign (v := .int .i64 0) rfl) ?_
 refine nr ?_
 refine wl_val wn rfl (rv_assign (v := .int .i64 0) rfl) ?_
 refine nsr ?_
 refine vm rfl rfl ?_
 refine wl_val wn rfl (rv_len (t := tInt) Tryz.underlying37 rfl hs4) ?_
 refine wl_val wn rfl (rv_move (v := .int .i64 0) rfl) ?_
 refine nq ?_
 obtain ⟨o5, h6, h7⟩ := ob hm
 refine wc_cutg (fun E' w' => ∃ (s8 : Unit) (K9 : KMap), o5 = .inl s8 ∧ E' = [(3, .int .i64 0)] ∧ SH w K [] w' K9 [] ∧ KLe K K9) ?_ ?_
 ·refine wc_block ?_
  obtain ⟨r14, h15, h16⟩ := ob h6
  refine wc_for' (fun (i17 : Nat) (s13 : Unit) E' w' => ∃ (K18 : KMap), E' = [(3, .int .i64 0), (6, .slice a1 n2 c3), (7, .int .i64 (p0_vals.length : Int)), (8, .int .i64 ((i17 : Nat) : Int))] ∧ SH w K [] w' K18 [] ∧ KLe K K18) h15 ⟨K, rfl, hS, (KLe.refl _)⟩ ⟨rfl, rfl, rfl, rfl, trivial⟩ ?_ ?_
  ·rintro i17 s13 _ w20 r22 hi23 h24 hx25 ⟨K18, rfl, hS21, hl19⟩
   refine sr ?_
   refine wl_val wn rfl (rv_lss rfl rfl) ?_
   refine ns ?_
   refine wc_cond_t rfl (decide_eq_true (by omega)) (wc_skip (qe_seq (wc_seq ?_)))
   refine wc_block ?_
   refine sr ?_
   obtain ⟨x26, hx27, h28⟩ := ob h24
   refine wl_indexAddr (t := tInt) wn rfl Tryz.underlying37 tf3 rfl rfl (SliceAt.mono hl19 hs4) hx27 ?_
   intro b29 o30 u31 hu32 ha33
   obtain ⟨rfl, hr34⟩ := hu32
   have ha35 : AtK _ b29 o30 [.int .i64 x26] := ha33
   refine wl_val wn rfl (rv_load1 tf3 rfl hS21 (ha35 0 _ rfl)) ?_
   refine va rfl rfl ?_
   refine nr ?_
   refine vm rfl rfl ?_
   refine vm rfl rfl ?_
   refine wl_val wn rfl (rv_neq rfl rfl) ?_
   refine nq ?_
   refine wc_cond rfl (fun hb36 => ?_) (fun hb36 => ?_)
   ·have h37 := cond_t hb36 h28
    refine sr ?_
    refine vm rfl rfl ?_
    refine va rfl rfl ?_
    refine nq ?_
    refine wc_ret ?_
    refine qe_block_ret ?_
    refine qe_then_ret ?_
    refine qe_then_ret ?_
    obtain rfl := oi h37
    have e38 := hx25 _ rfl
    subst e38
    refine qe_block_ret ?_
    refine qe_then_ret ?_
    obtain rfl := oi h16
    refine qe_then_ret ?_
    obtain rfl := oi h7
    exact qe_ret (vs := [_]) Tryz.results74 ⟨rfl, trivial⟩ ⟨K18, rfl, hS21, hr34⟩
   ·have h37 := cond_f hb36 h28
    refine wc_skip ?_
    refine qe_block ?_
    refine qg ?_
    refine wl_val wn rfl (rv_add_to rfl rfl (w64_succ hi23 (SliceAt.max hs4))) ?_
    refine vm rfl rfl ?_
    refine wl_nil ?_
    obtain rfl := oi h37
    exact qe_mid' ⟨_, rfl, K18, rfl, hS21, hl19⟩ ⟨rfl, rfl, rfl, rfl, trivial⟩
  ·rintro s13 _ w20 hr39 ⟨K18, rfl, hS21, hl19⟩
   subst hr39
   refine sr ?_
   refine wl_val wn rfl (rv_lss rfl rfl) ?_
   refine ns ?_
   refine wc_cond_f rfl (decide_eq_false (by omega)) ?_
   refine wc_exit ?_
   refine qe_then_exit ?_
   refine qe_then_exit ?_
   refine qe_block_eq ?_
   obtain rfl := oi h16
   exact qe_mid' ⟨_, K18, rfl, rfl, hS21, hl19⟩ ⟨rfl, trivial⟩
 ·rintro _ w11 ⟨s8, K9, rfl, rfl, hS12, hl10⟩
  refine qr ?_
  refine vm rfl rfl ?_
  refine va rfl rfl ?_
  refine nq ?_
  refine wc_ret ?_
  obtain rfl := oi h7
  exact qe_ret (vs := [_]) Tryz.results74 ⟨rfl, trivial⟩ ⟨K9, rfl, hS12, (by decide : rng64 0)⟩

theorem ok_cmp_isNaN_string (F : Nat) {w : World} {K : KMap} {p0_x : Str} {r : Bool} (hS : SH w K [] w K []) (hl1 : p0_x.length ≤ maxLen) (hm : M.cmp_isNaN_string F p0_x = some r) :
  Calls Tryz.prog 126 #[sv p0_x] w fun e w' => ∃ (K' : KMap), e = .returned (.bool r) ∧ SH w K [] w' K' [] := by
 rw [M.cmp_isNaN_string] at hm
 refine calls_in Tryz.func126 rfl Tryz.ntmps126 rfl ?_
 refine sr ?_
 refine wl_val wn rfl (rv_assign (v := .bool false) rfl) ?_
 refine nr ?_
 refine vm rfl rfl ?_
 refine vm rfl rfl ?_
 refine wl_val wn rfl (rv_sneq rfl rfl) ?_
 refine va rfl rfl ?_
 refine nq ?_
 refine wc_ret ?_
 obtain rfl := oi hm
 exact qe_ret (vs := [_]) Tryz.results126 ⟨rfl, trivial⟩ ⟨K, rfl, hS⟩

theorem ok_cmp_Compare_string (F : Nat) {w : World} {K : KMap} {p0_x : Str} {p1_y : Str} {r : Int} (hS : SH w K [] w K []) (hl1 : p0_x.length ≤ maxLen) (hl2 : p1_y.length ≤ maxLen) (hm : M.cmp_Compare_string F p0_x p1_y = some r) :
  Calls Tryz.prog 75 #[sv p0_x, sv p1_y] w fun e w' => ∃ (K' : KMap), e = .returned (.int .i64 r) ∧ SH w K [] w' K' [] ∧ rng64 r := by
 rw [M.cmp_Compare_string] at hm
 refine calls_in Tryz.func75 rfl Tryz.ntmps75 rfl ?_
 refine sr ?_
 refine wl_val wn rfl (rv_assign (v := .int .i64 0) rfl) ?_
 refine nr ?_
 refine vm rfl rfl ?_
 obtain ⟨r3, hx4, h5⟩ := ob hm
 refine wl_call wn rfl (rt_call (vs := [sv p0_x]) co126 rfl) ((ok_cmp_isNaN_string F) hS.enter0 hl1 hx4) ?_
 rintro e9 w7 ⟨K6, rfl, hS8⟩
 refine ⟨_, rfl, ?_⟩
 have hS10 : SH _ _ _ _ _ [] := SH.call0 hS hS8
 refine va rfl rfl ?_
 refine nr ?_
 refine vm rfl rfl ?_
 obtain ⟨r11, hx12, h13⟩ := ob h5
 refine wl_call wn rfl (rt_call (vs := [sv p1_y]) co126 rfl) ((ok_cmp_isNaN_string F) hS10.enter0 hl2 hx12) ?_
 rintro e17 w15 ⟨K14, rfl, hS16⟩
 refine ⟨_, rfl, ?_⟩
 have hS18 : SH _ _ _ _ _ [] := SH.call0 hS10 hS16
 refine va rfl rfl ?_
 refine nsr ?_
 refine vm rfl rfl ?_
 refine nq ?_
 refine wc_cond rfl (fun hb19 => ?_) (fun hb19 => ?_)
 ·have h20 := cond_t hb19 h13
  refine wc_seq ?_
  refine sr ?_
  refine vm rfl rfl ?_
  refine nq ?_
  refine wc_cond rfl (fun hb21 => ?_) (fun hb21 => ?_)
  ·have h22 := cond_t hb21 h20
   refine sr ?_
   refine wl_val wn rfl (rv_assign (v := .int .i64 0) rfl) ?_
   refine nq ?_
   refine rr ?_
   refine qe_then_ret ?_
   obtain rfl := oi h22
   exact qe_ret (vs := [_]) Tryz.results75 ⟨rfl, trivial⟩ ⟨K14, rfl, hS18, (by decide : rng64 0)⟩
  ·have h22 := cond_f hb21 h20
   refine wc_skip ?_
   refine qr ?_
   refine wl_val wn rfl (rv_assign (v := .int .i64 (-1)) rfl) ?_
   refine nq ?_
   refine rr ?_
   obtain rfl := oi h22
   exact qe_ret (vs := [_]) Tryz.results75 ⟨rfl, trivial⟩ ⟨K14, rfl, hS18, (by decide : rng64 (-1))⟩
 ·have h20 := cond_f hb19 h13
  refine wc_skip ?_
  refine qs ?_
  refine sr ?_
  refine vm rfl rfl ?_
  refine nq ?_
  refine wc_cond rfl (fun hb23 => ?_) (fun hb23 => ?_)
  ·have h24 := cond_t hb23 h20
   refine sr ?_
   refine wl_val wn rfl (rv_assign (v := .int .i64 1) rfl) ?_
   refine nq ?_
   refine rr ?_
   obtain rfl := oi h24
   exact qe_ret (vs := [_]) Tryz.results75 ⟨rfl, trivial⟩ ⟨K14, rfl, hS18, (by decide : rng64 1)⟩
  ·have h24 := cond_f hb23 h20
   refine wc_skip ?_
   refine qs ?_
   refine sr ?_
   refine vm rfl rfl ?_
   refine vm rfl rfl ?_
   refine wl_val wn rfl (rv_slss rfl rfl) ?_
   refine nq ?_
   refine wc_cond rfl (fun hb25 => ?_) (fun hb25 => ?_)
   ·have h26 := cond_t hb25 h24
    refine sr ?_
    refine wl_val wn rfl (rv_assign (v := .int .i64 (-1)) rfl) ?_
    refine nq ?_
    refine rr ?_
    obtain rfl := oi h26
    exact qe_ret (vs := [_]) Tryz.results75 ⟨rfl, trivial⟩ ⟨K14, rfl, hS18, (by decide : rng64 (-1))⟩
   ·have h26 := cond_f hb25 h24
    refine wc_skip ?_
    refine qs ?_
    refine sr ?_
    refine vm rfl rfl ?_
    refine vm rfl rfl ?_
    refine wl_val wn rfl (rv_sgtr rfl rfl) ?_
    refine nq ?_
    refine wc_cond rfl (fun hb27 => ?_) (fun hb27 => ?_)
    ·have h28 := cond_t hb27 h26
     refine sr ?_
     refine wl_val wn rfl (rv_assign (v := .int .i64 1) rfl) ?_
     refine nq ?_
     refine rr ?_
     obtain rfl := oi h28
     exact qe_ret (vs := [_]) Tryz.results75 ⟨rfl, trivial⟩ ⟨K14, rfl, hS18, (by decide : rng64 1)⟩
    ·have h28 := cond_f hb27 h26
     refine wc_skip ?_
     refine qr ?_
     refine wl_val wn rfl (rv_assign (v := .int .i64 0) rfl) ?_
     refine nq ?_
     refine wc_ret ?_
     obtain rfl := oi h28
     exact qe_ret (vs := [_]) Tryz.results75 ⟨rfl, trivial⟩ ⟨K14, rfl, hS18, (by decide : rng64 0)⟩

theorem ok_impl_SegOf_1 (F : Nat) {w : World} {K : KMap} {a3 : Option Addr} {n4 c5 : Nat} {a9 : Option Addr} {n10 c11 : Nat} {p0_a : GEntry} {p1_b : GEntry} {r : Int} (hS : SH w K [] w K []) (hl1 : p0_a.Field.length ≤ maxLen) (hl2 : p0_a.Term.length ≤ maxLen) (hs6 : SliceAt tGPost K a3 n4 c5 p0_a.Posts) (hl7 : p1_b.Field.length ≤ maxLen) (hl8 : p1_b.Term.length ≤ maxLen) (hs12 : SliceAt tGPost K a9 n10 c11 p1_b.Posts) (hm : M.impl_SegOf_1 F p0_a p1_b = some r) :
  Calls Tryz.prog 73 #[.agg #[sv p0_a.Field, sv p0_a.Term, .slice a3 n4 c5], .agg #[sv p1_b.Field, sv p1_b.Term, .slice a9 n10 c11]] w fun e w' => ∃ (K' : KMap), e = .returned (.int .i64 r) ∧ SH w K [] w' K' [] ∧ rng64 r := by
 rw [M.impl_SegOf_1] at hm
 refine calls_in Tryz.func73 rfl Tryz.ntmps73 rfl ?_
 refine sr ?_
 refine wl_box wn rfl rfl hS ?_
 intro g13 w14 hS15
 have hS16 : SH _ _ _ _ _ [obj g13 [sv p0_a.Field, sv p0_a.Term, .slice a3 n4 c5] 94] := hS15
 refine wl_box wn rfl rfl hS16 ?_
 intro g17 w18 hS19
 have hS20 : SH _ _ _ _ _ [obj g17 [sv p1_b.Field, sv p1_b.Term, .slice a9 n10 c11] 94, _] := hS19
 refine wl_val wn rfl (rv_assign (v := .int .i64 0) rfl) ?_
 refine ns ?_
 refine wc_held (fun w' => Holds K w' ∧ HasObj g13 [sv p0_a.Field, sv p0_a.Term, .slice a3 n4 c5] w' ∧ HasObj g17 [sv p1_b.Field, sv p1_b.Term, .slice a9 n10 c11] w') (fun w' => True) 13 [] mixed ?_
 have hS22 := SH.drew hS20
 refine wg_val (i := 0) (listed' := #[true, false, false, false, false, false, false, false, false, false, false, false, false]) (fun _ => True) rfl (by kernel_rfl) (pk_then pk_body) (by kernel_rfl) rfl (by kernel_rfl) (by kernel_rfl) rfl (.inl fun _ _ => trivial) ⟨⟨hS22.hasK (KLe.refl _), hS22.hasObj (.tail _ (.head _)), hS22.hasObj (.head _)⟩, (fun _ => trivial), by decide⟩ wn rfl (fun _ _ => (rv_fieldAddr ff94_0 rfl)) ?_
 refine wg_val (i := 1) (listed' := #[true, true, false, false, false, false, false, false, false, false, false, false, false]) (HasObj g13 [sv p0_a.Field, sv p0_a.Term, .slice a3 n4 c5]) rfl (by kernel_rfl) (pk_then pk_body) (by kernel_rfl) rfl (by kernel_rfl) (by kernel_rfl) rfl (.inl fun _ h => h.2.1) ⟨⟨hS22.hasK (KLe.refl _), hS22.hasObj (.tail _ (.head _)), hS22.hasObj (.head _)⟩, (fun _ => trivial), by decide⟩ wn rfl (fun _ h => rh_loadm1 tf9 rfl rfl h) ?_
 refine wg_val (i := 2) (listed' := #[true, true, true, false, false, false, false, false, false, false, false, false, false]) (fun _ => True) rfl (by kernel_rfl) (pk_then pk_body) (by kernel_rfl) rfl (by kernel_rfl) (by kernel_rfl) rfl (.inl fun _ _ => trivial) ⟨⟨hS22.hasK (KLe.refl _), hS22.hasObj (.tail _ (.head _)), hS22.hasObj (.head _)⟩, (fun _ => trivial), by decide⟩ wn rfl (fun _ _ => (rv_fieldAddr ff94_0 rfl)) ?_
 refine wg_val (i := 3) (listed' := #[true, true, true, true, false, false, false, false, false, false, false, false, false]) (HasObj g17 [sv p1_b.Field, sv p1_b.Term, .slice a9 n10 c11]) rfl (by kernel_rfl) (pk_then pk_body) (by kernel_rfl) rfl (by kernel_rfl) (by kernel_rfl) rfl (.inl fun _ h => h.2.2) ⟨⟨hS22.hasK (KLe.refl _), hS22.hasObj (.tail _ (.head _)), hS22.hasObj (.head _)⟩, (fun _ => trivial), by decide⟩ wn rfl (fun _ h => rh_loadm1 tf9 rfl rfl h) ?_
 refine wg_val (i := 5) (listed' := #[true, true, true, true, false, true, false, false, false, false, false, false, false]) (fun _ => True) rfl (by kernel_rfl) (pk_then pk_body) (by kernel_rfl) rfl (by kernel_rfl) (by kernel_rfl) rfl (.inl fun _ _ => trivial) ⟨⟨hS22.hasK (KLe.refl _), hS22.hasObj (.tail _ (.head _)), hS22.hasObj (.head _)⟩, (fun _ => trivial), by decide⟩ wn rfl (fun _ _ => (rv_fieldAddr ff94_1 rfl)) ?_
 refine wg_val (i := 6) (listed' := #[true, true, true, true, false, true, true, false, false, false, false, false, false]) (HasObj g13 [sv p0_a.Field, sv p0_a.Term, .slice a3 n4 c5]) rfl (by kernel_rfl) (pk_then pk_body) (by kernel_rfl) rfl (by kernel_rfl) (by kernel_rfl) rfl (.inl fun _ h => h.2.1) ⟨⟨hS22.hasK (KLe.refl _), hS22.hasObj (.tail _ (.head _)), hS22.hasObj (.head _)⟩, (fun _ => trivial), by decide⟩ wn rfl (fun _ h => rh_loadm1 tf9 rfl rfl h) ?_
 refine wg_val (i := 7) (listed' := #[true, true, true, true, false, true, true, true, false, false, false, false, false]) (fun _ => True) rfl (by kernel_rfl) (pk_then pk_body) (by kernel_rfl) rfl (by kernel_rfl) (by kernel_rfl) rfl (.inl fun _ _ => trivial) ⟨⟨hS22.hasK (KLe.refl _), hS22.hasObj (.tail _ (.head _)), hS22.hasObj (.head _)⟩, (fun _ => trivial), by decide⟩ wn rfl (fun _ _ => (rv_fieldAddr ff94_1 rfl)) ?_
 refine wg_val (i := 8) (listed' := #[true, true, true, true, false, true, true, true, true, false, false, false, false]) (HasObj g17 [sv p1_b.Field, sv p1_b.Term, .slice a9 n10 c11]) rfl (by kernel_rfl) (pk_then pk_body) (by kernel_rfl) rfl (by kernel_rfl) (by kernel_rfl) rfl (.inl fun _ h => h.2.2) ⟨⟨hS22.hasK (KLe.refl _), hS22.hasObj (.tail _ (.head _)), hS22.hasObj (.head _)⟩, (fun _ => trivial), by decide⟩ wn rfl (fun _ h => rh_loadm1 tf9 rfl rfl h) ?_
 refine wg_one (i := 4) (by kernel_rfl) rfl ?_
 obtain ⟨r23, hx24, h25⟩ := ob hm
 refine wl_call wn rfl (rt_call (vs := [sv p0_a.Field, sv p1_b.Field]) co75 rfl) ((ok_cmp_Compare_string F) hS22.enter0 hl1 hl7 hx24) ?_
 rintro e30 w27 ⟨K26, rfl, hS28, hr29⟩
 refine ⟨_, rfl, ?_⟩
 have hS31 : SH _ _ _ _ _ [_, _] := SH.call0 hS22 hS28
 refine wl_nil (qe_held (listed' := #[true, true, true, true, true, true, true, true, true, false, false, false, false]) rfl ⟨⟨hS31.hasK hS28.le, hS31.hasObj (.tail _ (.head _)), hS31.hasObj (.head _)⟩, (fun _ => trivial), by decide⟩ ?_)
 refine wg_one (i := 9) (by kernel_rfl) rfl ?_
 obtain ⟨r32, hx33, h34⟩ := ob h25
 refine wl_call wn rfl (rt_call (vs := [sv p0_a.Term, sv p1_b.Term]) co75 rfl) ((ok_cmp_Compare_string F) hS31.enter0 hl2 hl8 hx33) ?_
 rintro e39 w36 ⟨K35, rfl, hS37, hr38⟩
 refine ⟨_, rfl, ?_⟩
 have hS40 : SH _ _ _ _ _ [_, _] := SH.call0 hS31 hS37
 refine wl_nil (qe_held (listed' := #[true, true, true, true, true, true, true, true, true, true, false, false, false]) rfl ⟨⟨hS40.hasK (hS28.le.trans hS37.le), hS40.hasObj (.tail _ (.head _)), hS40.hasObj (.head _)⟩, (fun _ => trivial), by decide⟩ ?_)
 refine wg_one (i := 10) (by kernel_rfl) rfl ?_
 refine wl_buildSlice (t := tInt) (n := 2) (pv := [(0, .int .i64 r23), (1, .int .i64 r32)]) (cs := [.int .i64 r23, .int .i64 r32]) (xs := [r23, r32]) wn rfl Tryz.underlying37 tf3 rfl rfl rfl (by kernel_rfl) rfl rfl (lit_cons (u := .int .i64 r23) (z := r23) ⟨rfl, hr29⟩ (lit_cons (u := .int .i64 r32) (z := r32) ⟨rfl, hr38⟩ lit_nil)) hS40 ?_
 intro a41 w42 K43 hl44 hs45 hS46
 refine wl_nil (qe_held (listed' := #[true, true, true, true, true, true, true, true, true, true, true, false, false]) rfl ⟨⟨hS46.hasK ((hS28.le.trans hS37.le).trans hl44), hS46.hasObj (.tail _ (.tail _ (.head _))), hS46.hasObj (.tail _ (.head _))⟩, (fun _ => trivial), by decide⟩ ?_)
 refine wg_one (i := 11) (by kernel_rfl) rfl ?_
 obtain ⟨r47, hx48, h49⟩ := ob h34
 refine wl_call wn rfl (rt_call (vs := [.slice a41 2 2]) co74 rfl) ((ok_cmp_Or_int F) hS46.enter0 hs45 hx48) ?_
 rintro e54 w51 ⟨K50, rfl, hS52, hr53⟩
 refine ⟨_, rfl, ?_⟩
 have hS55 : SH _ _ _ _ _ [_, _, _] := SH.call0 hS46 hS52
 refine wl_nil (qe_held (listed' := #[true, true, true, true, true, true, true, true, true, true, true, true, false]) rfl ⟨⟨hS55.hasK (((hS28.le.trans hS37.le).trans hl44).trans hS52.le), hS55.hasObj (.tail _ (.tail _ (.head _))), hS55.hasObj (.tail _ (.head _))⟩, (fun _ => trivial), by decide⟩ ?_)
 refine wg_val (i := 12) (listed' := #[true, true, true, true, true, true, true, true, true, true, true, true, true]) (fun _ => True) rfl (by kernel_rfl) (pk_then pk_body) (by kernel_rfl) rfl (by kernel_rfl) (by kernel_rfl) rfl (.inl fun _ _ => trivial) ⟨⟨hS55.hasK (((hS28.le.trans hS37.le).trans hl44).trans hS52.le), hS55.hasObj (.tail _ (.tail _ (.head _))), hS55.hasObj (.tail _ (.head _))⟩, (fun _ => trivial), by decide⟩ wn rfl (fun _ _ => (rv_assign rfl)) ?_
 refine wg_done (by kernel_rfl) ?_
 refine qe_seq ?_
 refine wc_ret ?_
 obtain rfl := oi h49
 have hS56 : SH _ _ _ _ _ [] := SH.sublist hS55 (.cons _ (.cons _ (.cons _ .slnil)))
 exact qe_ret (vs := [_]) Tryz.results73 ⟨rfl, trivial⟩ ⟨K50, rfl, hS56, hr53⟩

set_option maxHeartbeats 2000000 in
theorem ok_impl_SegOf (F : Nat) {w : World} {K : KMap} {a1 : Option Addr} {n2 c3 : Nat} {a5 : Option Addr} {n6 c7 : Nat} {a9 : Option Addr} {n10 c11 : Nat} {p0_c : GConf} {p1_docs : List GDoc} {r : GSeg} (hS : SH w K [] w K []) (hs4 : SliceAt tStr K a1 n2 c3 p0_c.Stops) (hs8 : SliceAt tGSyn K a5 n6 c7 p0_c.Syns) (hs12 : SliceAt tGDoc K a9 n10 c11 p1_docs) (hm : M.impl_SegOf F p0_c p1_docs = some r) :
  Calls Tryz.prog 23 #[.agg #[.slice a1 n2 c3, .slice a5 n6 c7], .slice a9 n10 c11] w fun e w' => ∃ (a_1 : Option Addr) (n_2 c_3 : Nat) (a_5 : Option Addr) (n_6 c_7 : Nat) (K' : KMap), e = .returned (.agg #[.slice a_1 n_2 c_3, .slice a_5 n_6 c_7]) ∧ SH w K [] w' K' [tail (.slice a_5 n_6 c_7) 94 3] ∧ SliceAt tGDoc K' a_1 n_2 c_3 r.Docs ∧ SliceAt tGEntry K' a_5 n_6 c_7 r.Entries := by
 rw [M.impl_SegOf] at hm
 refine calls_in Tryz.func23 rfl Tryz.ntmps23 rfl ?_
 refine sr ?_
 refine wl_box wn rfl rfl hS ?_
 intro g13 w14 hS15
 have hS16 : SH _ _ _ _ _ [obj g13 [.slice a1 n2 c3, .slice a5 n6 c7] 26] := hS15
 refine wl_alloc wn rfl tf30 hS16 ?_
 intro g17 w18 hS19
 have hS20 : SH _ _ _ _ _ [obj g17 [.slice none 0 0, .slice none 0 0] 30, _] := hS19
 refine ns ?_
 refine wc_seq ?_
 obtain ⟨o21, h22, h23⟩ := ob hm
 refine wc_cutg (fun E' w' => ∃ (K24 : KMap), E' = [(1, .slice a9 n10 c11), (2, .pointer (some ⟨g13, 0, none⟩)), (4, .pointer (some ⟨g17, 0, none⟩)), (19, .bool o21)] ∧ SH w K [] w' K24 [obj g13 [.slice a1 n2 c3, .slice a5 n6 c7] 26, obj g17 [.slice none 0 0, .slice none 0 0] 30] ∧ KLe K K24) ?_ ?_
 ·refine wc_region ?_
  refine wl_val wn rfl (rv_loadmS (ds := [.slice a1 n2 c3, .slice a5 n6 c7]) tf26 rfl (.tail _ (.head _)) hS20 rfl rfl) ?_
  obtain ⟨r28, hx29, h30⟩ := ob h22
  refine wl_call wn rfl (rt_call (vs := [.agg #[.slice a1 n2 c3, .slice a5 n6 c7]]) co51 rfl) ((ok_impl_ConfOk F) hS20.enter0 hs4 hs8 hx29) ?_
  rintro e34 w32 ⟨K31, rfl, hS33⟩
  refine ⟨_, rfl, ?_⟩
  have hS35 : SH _ _ _ _ _ [_, _] := SH.call0 hS20 hS33
  refine wl_val wn rfl (rv_not rfl) ?_
  refine vm rfl rfl ?_
  rcases bool_tf ((!r28)) with hb36 | hb36
  ·have h37 := cond_t hb36 h30
   refine wl_un (ug rfl rfl hb36) rfl ?_
   refine wl_un (ug rfl rfl hb36) rfl ?_
   refine wl_un (ug rfl rfl hb36) rfl ?_
   refine wl_val wn rfl (rv_pick_t (v := .bool true) rfl hb36 rfl) ?_
   refine wl_nil ?_
   obtain rfl := oi h37
   have hS38 : SH _ _ _ _ _ [_, _] := SH.front (p := [_]) hS35
   exact qe_mid' ⟨K31, rfl, hS38, hS33.le⟩ ⟨rfl, rfl, rfl, rfl, trivial⟩
  ·have h37 := cond_f hb36 h30
   refine wl_val (wg rfl rfl hb36) rfl (rv_move rfl) ?_
   obtain ⟨r39, hx40, h41⟩ := ob h37
   refine wl_call (wg rfl rfl hb36) rfl (rt_call (vs := [.slice a9 n10 c11]) co52 rfl) ((ok_impl_DocsOk F) hS35.enter0 (SliceAt.mono hS33.le hs12) hx40) ?_
   rintro e45 w43 ⟨K42, rfl, hS44⟩
   refine ⟨_, rfl, ?_⟩
   have hS46 : SH _ _ _ _ _ [_, _] := SH.call0 hS35 hS44
   refine wl_val (wg rfl rfl hb36) rfl (rv_not rfl) ?_
   refine wl_val wn rfl (rv_pick_f rfl hb36 rfl) ?_
   refine wl_nil ?_
   obtain rfl := oi h41
   have hS47 : SH _ _ _ _ _ [_, _] := SH.front (p := [_]) hS46
   exact qe_mid' ⟨K42, rfl, hS47, (hS33.le.trans hS44.le)⟩ ⟨rfl, rfl, rfl, rfl, trivial⟩
 ·rintro _ w26 ⟨K24, rfl, hS27, hl25⟩
  refine qe_seq ?_
  refine wc_cond rfl (fun hb48 => ?_) (fun hb48 => ?_)
  ·have h49 := cond_t hb48 h23
   refine sr ?_
   refine wl_val wn rfl (rv_build (cs := #[.slice none 0 0, .slice none 0 0]) sp30 tf30 rfl (by kernel_rfl)) ?_
   have hS50 : SH _ _ _ _ _ [_, _] := SH.front (p := [_]) hS27
   refine wl_store (cs' := [.slice none 0 0, .slice none 0 0]) (v := .agg #[.slice none 0 0, .slice none 0 0]) wn tf30 rfl rfl rfl (by simp [Value.cells, Value.oneCell']) hS50 rfl rfl ?_
   intro w51 hS52
   refine nq ?_
   refine rr ?_
   obtain rfl := oi h49
   have hS53 := SH.nil hS52 94 3
   have hS54 : SH _ _ _ _ _ [_] := SH.sublist hS53 (.cons_cons _ (.cons _ (.cons _ .slnil)))
   exact qe_ret (vs := [_]) Tryz.results23 ⟨⟨_, _, rfl, run_loadVar_at tf30 (cs := [.slice none 0 0, .slice none 0 0]) (fun j c e => by rw [Nat.zero_add, hS52.mem_obj (.head _)]; exact e) (.inl ⟨rfl, rfl, rfl⟩)⟩, trivial⟩ ⟨none, 0, 0, none, 0, 0, K24, rfl, hS54, (SliceAt.nil _ _), (SliceAt.nil _ _)⟩
  ·have h49 := cond_f hb48 h23
   refine wc_skip ?_
   refine qr ?_
   refine vm rfl rfl ?_
   obtain ⟨r55, hx56, h57⟩ := ob h49
   refine wl_call wn rfl (rt_call (vs := [.slice a9 n10 c11]) co70 rfl) ((ok_impl_cloneDocs F) hS27.enter0 (SliceAt.mono hl25 hs12) hx56) ?_
   rintro e65 w59 ⟨a61, n62, c63, K58, rfl, hS60, hs64⟩
   refine ⟨_, rfl, ?_⟩
   have hS66 : SH _ _ _ _ _ [_, _, _] := SH.call0 hS27 hS60
   refine wl_buildSlice0 tGEntry wn rfl Tryz.underlying28 tf94 hS66 ?_
   intro a67 w68 K69 hl70 hs71 hS72
   refine wl_val wn rfl (rv_build (cs := #[.slice a61 n62 c63, .slice a67 0 0]) sp30 tf30 rfl (by kernel_rfl)) ?_
   refine wl_alloc wn rfl tf30 hS72 ?_
   intro g73 w74 hS75
   have hS76 : SH _ _ _ _ _ [obj g73 [.slice none 0 0, .slice none 0 0] 30, _, _, _, _] := hS75
   refine wl_store (cs' := [.slice a61 n62 c63, .slice a67 0 0]) (v := .agg #[.slice a61 n62 c63, .slice a67 0 0]) wn tf30 rfl rfl rfl (by simp [Value.cells, Value.oneCell']) hS76 rfl rfl ?_
   intro w77 hS78
   refine nsr ?_
   refine vm rfl rfl ?_
   refine wl_val wn rfl (rv_len (t := tGDoc) Tryz.underlying27 rfl (SliceAt.mono ((hl25.trans hS60.le).trans hl70) hs12)) ?_
   refine wl_val wn rfl (rv_move (v := .int .i64 0) rfl) ?_
   refine nq ?_
   obtain ⟨o79, h80, h81⟩ := ob h57
   refine wc_cutg (fun E' w' => ∃ (a86 : Option Addr) (n87 c88 : Nat) (a90 : Option Addr) (n91 c92 : Nat) (lay93 : List ELay) (K82 : KMap), E' = [(4, .pointer (some ⟨g17, 0, none⟩)), (5, .pointer (some ⟨g73, 0, none⟩))] ∧ SH w K [] w' K82 [obj g17 [.slice none 0 0, .slice none 0 0] 30, obj g73 [.slice a86 n87 c88, .slice a90 n91 c92] 30, pack (segItems 94 48 3 a90 n91 c92 lay93)] ∧ KLe K69 K82 ∧ SliceAt tGDoc K82 a86 n87 c88 o79.Docs ∧ LayOk lay93 o79.Entries) ?_ ?_
   ·refine wc_block ?_
    obtain ⟨r96, h97, h98⟩ := ob h80
    have hS113 : SH _ _ _ _ _ [_, _, _, _, _] := SH.front (p := [_]) hS78
    have hS114 := seg_empty (TP := 48) (TI := 3) hS113
    have hS115 : SH _ _ _ _ _ [_, _, _, _, _] := SH.front (p := [_]) hS114
    have hS116 : SH _ _ _ _ _ [_, _, _, _, _] := SH.front (p := [_, _, _, _]) hS115
    have hS117 : SH _ _ _ _ _ [_, _, _, _, _] := SH.front (p := [_, _, _, _]) hS116
    have hS118 : SH _ _ _ _ _ [_, _, _, _] := SH.sublist hS117 (.cons_cons _ (.cons_cons _ (.cons_cons _ (.cons_cons _ (.cons _ .slnil)))))
    refine wc_forE' (fun (i99 : Nat) (s95 : GSeg) E' w' => ∃ (a104 : Option Addr) (n105 c106 : Nat) (a108 : Option Addr) (n109 c110 : Nat) (lay111 : List ELay) (K100 : KMap), E' = [(2, .pointer (some ⟨g13, 0, none⟩)), (4, .pointer (some ⟨g17, 0, none⟩)), (5, .pointer (some ⟨g73, 0, none⟩)), (25, .slice a9 n10 c11), (26, .int .i64 (p1_docs.length : Int)), (27, .int .i64 ((i99 : Nat) : Int))] ∧ SH w K [] w' K100 [obj g13 [.slice a1 n2 c3, .slice a5 n6 c7] 26, obj g17 [.slice none 0 0, .slice none 0 0] 30, obj g73 [.slice a104 n105 c106, .slice a108 n109 c110] 30, pack (segItems 94 48 3 a108 n109 c110 lay111)] ∧ KLe K69 K100 ∧ SliceAt tGDoc K100 a104 n105 c106 s95.Docs ∧ LayOk lay111 s95.Entries) h97 ⟨a61, n62, c63, a67, 0, 0, [], K69, rfl, hS118, (KLe.refl _), (SliceAt.mono hl70 hs64), ⟨(fun _ h => nomatch h), rfl⟩⟩ ⟨rfl, rfl, rfl, rfl, rfl, rfl, trivial⟩ ?_ ?_
    ·rintro i99 s95 _ w102 r119 hi120 h121 ⟨a104, n105, c106, a108, n109, c110, lay111, K100, rfl, hS103, hl101, hs107, hl112⟩
     refine sr ?_
     refine wl_val wn rfl (rv_lss rfl rfl) ?_
     refine ns ?_
     refine wc_cond_t rfl (decide_eq_true (by omega)) (wc_skip (qe_seq (wc_seq ?_)))
     refine wc_block ?_
     refine sr ?_
     obtain ⟨x123, hx124, h125⟩ := ob h121
     refine wl_indexAddr (t := tGDoc) wn rfl Tryz.underlying27 tf44 rfl rfl (SliceAt.mono (((hl25.trans hS60.le).trans hl70).trans hl101) hs12) hx124 ?_
     intro b126 o127 u128 hu129 ha130
     obtain ⟨a132, n133, c134, a136, n137, c138, rfl, hr131, hs135, hs139⟩ := hu129
     have ha140 : AtK _ b126 o127 [.int .i64 x123.Id, .slice a132 n133 c134, .slice a136 n137 c138] := ha130
     refine wl_val wn rfl (rv_loadS (cs := [.int .i64 x123.Id, .slice a132 n133 c134, .slice a136 n137 c138]) tf44 rfl hS103 ha140 rfl) ?_
     refine wl_alloc wn rfl tf44 hS103 ?_
     intro g141 w142 hS143
     have hS144 : SH _ _ _ _ _ [obj g141 [.int .i64 0, .slice none 0 0, .slice none 0 0] 44, _, _, _, _] := hS143
     refine wl_store (cs' := [.int .i64 x123.Id, .slice a132 n133 c134, .slice a136 n137 c138]) (v := .agg #[.int .i64 x123.Id, .slice a132 n133 c134, .slice a136 n137 c138]) wn tf44 rfl rfl rfl (by simp [Value.cells, Value.oneCell']) hS144 rfl rfl ?_
     intro w145 hS146
     refine nr ?_
     refine wl_val wn rfl (rv_fieldAddr ff44_1 rfl) ?_
     refine wl_val wn rfl (rv_loadm1 tf41 rfl (.head _) hS146 rfl) ?_
     refine wl_val wn rfl (rv_len (t := tGField) Tryz.underlying41 rfl hs135) ?_
     refine wl_val wn rfl (rv_move (v := .int .i64 0) rfl) ?_
     refine nq ?_
     obtain ⟨o147, h148, h149⟩ := ob h125
     refine wc_cutg (fun E' w' => ∃ (a154 : Option Addr) (n155 c156 : Nat) (a158 : Option Addr) (n159 c160 : Nat) (lay161 : List ELay) (K150 : KMap), E' = [(2, .pointer (some ⟨g13, 0, none⟩)), (4, .pointer (some ⟨g17, 0, none⟩)), (5, .pointer (some ⟨g73, 0, none⟩)), (25, .slice a9 n10 c11), (26, .int .i64 (p1_docs.length : Int)), (27, .int .i64 ((i99 : Nat) : Int))] ∧ SH w K [] w' K150 [obj g13 [.slice a1 n2 c3, .slice a5 n6 c7] 26, obj g17 [.slice none 0 0, .slice none 0 0] 30, obj g73 [.slice a154 n155 c156, .slice a158 n159 c160] 30, pack (segItems 94 48 3 a158 n159 c160 lay161)] ∧ KLe K100 K150 ∧ SliceAt tGDoc K150 a154 n155 c156 o147.Docs ∧ LayOk lay161 o147.Entries) ?_ ?_
     ·refine wc_block ?_
      obtain ⟨r164, h165, h166⟩ := ob h148
      have hS181 : SH _ _ _ _ _ [_, _, _, _, _] := SH.front (p := [_, _, _, _]) hS146
      have hS182 : SH _ _ _ _ _ [_, _, _, _, _] := SH.front (p := [_, _, _, _]) hS181
      have hS183 : SH _ _ _ _ _ [_, _, _, _, _] := SH.front (p := [_, _, _, _]) hS182
      have hS184 : SH _ _ _ _ _ [_, _, _, _, _] := SH.front (p := [_, _, _, _]) hS183
      refine wc_forE' (fun (i167 : Nat) (s163 : GSeg) E' w' => ∃ (a172 : Option Addr) (n173 c174 : Nat) (a176 : Option Addr) (n177 c178 : Nat) (lay179 : List ELay) (K168 : KMap), E' = [(2, .pointer (some ⟨g13, 0, none⟩)), (4, .pointer (some ⟨g17, 0, none⟩)), (5, .pointer (some ⟨g73, 0, none⟩)), (7, .pointer (some ⟨g141, 0, none⟩)), (25, .slice a9 n10 c11), (26, .int .i64 (p1_docs.length : Int)), (27, .int .i64 ((i99 : Nat) : Int)), (32, .slice a132 n133 c134), (33, .int .i64 (x123.Fields.length : Int)), (34, .int .i64 ((i167 : Nat) : Int))] ∧ SH w K [] w' K168 [obj g13 [.slice a1 n2 c3, .slice a5 n6 c7] 26, obj g17 [.slice none 0 0, .slice none 0 0] 30, obj g73 [.slice a172 n173 c174, .slice a176 n177 c178] 30, pack (segItems 94 48 3 a176 n177 c178 lay179), obj g141 [.int .i64 x123.Id, .slice a132 n133 c134, .slice a136 n137 c138] 44] ∧ KLe K100 K168 ∧ SliceAt tGDoc K168 a172 n173 c174 s163.Docs ∧ LayOk lay179 s163.Entries) h165 ⟨a104, n105, c106, a108, n109, c110, lay111, K100, rfl, hS184, (KLe.refl _), hs107, hl112⟩ ⟨rfl, rfl, rfl, rfl, rfl, rfl, rfl, rfl, rfl, rfl, trivial⟩ ?_ ?_
      ·rintro i167 s163 _ w170 r185 hi186 h187 ⟨a172, n173, c174, a176, n177, c178, lay179, K168, rfl, hS171, hl169, hs175, hl180⟩
       refine sr ?_
       refine wl_val wn rfl (rv_lss rfl rfl) ?_
       refine ns ?_
       refine wc_cond_t rfl (decide_eq_true (by omega)) (wc_skip (qe_seq (wc_seq ?_)))
       refine wc_block ?_
       refine sr ?_
       obtain ⟨x189, hx190, h191⟩ := ob h187
       refine wl_indexAddr (t := tGField) wn rfl Tryz.underlying41 tf109 rfl rfl (SliceAt.mono hl169 hs135) hx190 ?_
       intro b192 o193 u194 hu195 ha196
       obtain ⟨rfl, hl197, hl198⟩ := hu195
       have ha199 : AtK _ b192 o193 [sv x189.Name, sv x189.Text] := ha196
       refine wl_val wn rfl (rv_loadS (cs := [sv x189.Name, sv x189.Text]) tf109 rfl hS171 ha199 rfl) ?_
       refine wl_alloc wn rfl tf109 hS171 ?_
       intro g200 w201 hS202
       have hS203 : SH _ _ _ _ _ [obj g200 [sv [], sv []] 109, _, _, _, _, _] := hS202
       refine wl_store (cs' := [sv x189.Name, sv x189.Text]) (v := .agg #[sv x189.Name, sv x189.Text]) wn tf109 rfl rfl rfl (by simp [Value.cells, Value.oneCell', sv]) hS203 rfl rfl ?_
       intro w204 hS205
       refine nr ?_
       refine wl_val wn rfl (rv_loadmS (ds := [.slice a1 n2 c3, .slice a5 n6 c7]) tf26 rfl (.tail _ (.head _)) hS205 rfl rfl) ?_
       refine wl_val wn rfl (rv_fieldAddr ff109_1 rfl) ?_
       refine wl_val wn rfl (rv_loadm1 tf9 rfl (.head _) hS205 rfl) ?_
       obtain ⟨r206, hx207, h208⟩ := ob h191
       refine wl_call wn rfl (rt_call (vs := [.agg #[.slice a1 n2 c3, .slice a5 n6 c7], sv x189.Text]) co15 rfl) ((ok_impl_TermsOf F) hS205.enter0 (SliceAt.mono ((((hl25.trans hS60.le).trans hl70).trans hl101).trans hl169) hs4) (SliceAt.mono ((((hl25.trans hS60.le).trans hl70).trans hl101).trans hl169) hs8) hl198 hx207) ?_
       rintro e216 w210 ⟨a212, n213, c214, K209, rfl, hS211, hs215⟩
       refine ⟨_, rfl, ?_⟩
       have hS217 : SH _ _ _ _ _ [_, _, _, _, _, _, _] := SH.call0 hS205 hS211
       refine wl_val wn rfl (rv_len (t := tGTerm) Tryz.underlying38 rfl hs215) ?_
       refine wl_val wn rfl (rv_move (v := .int .i64 0) rfl) ?_
       refine nq ?_
       obtain ⟨o218, h219, h220⟩ := ob h208
       refine wc_cutg (fun E' w' => ∃ (a225 : Option Addr) (n226 c227 : Nat) (a229 : Option Addr) (n230 c231 : Nat) (lay232 : List ELay) (K221 : KMap), E' = [(2, .pointer (some ⟨g13, 0, none⟩)), (4, .pointer (some ⟨g17, 0, none⟩)), (5, .pointer (some ⟨g73, 0, none⟩)), (7, .pointer (some ⟨g141, 0, none⟩)), (25, .slice a9 n10 c11), (26, .int .i64 (p1_docs.length : Int)), (27, .int .i64 ((i99 : Nat) : Int)), (32, .slice a132 n133 c134), (33, .int .i64 (x123.Fields.length : Int)), (34, .int .i64 ((i167 : Nat) : Int))] ∧ SH w K [] w' K221 [obj g13 [.slice a1 n2 c3, .slice a5 n6 c7] 26, obj g17 [.slice none 0 0, .slice none 0 0] 30, obj g73 [.slice a225 n226 c227, .slice a229 n230 c231] 30, pack (segItems 94 48 3 a229 n230 c231 lay232), obj g141 [.int .i64 x123.Id, .slice a132 n133 c134, .slice a136 n137 c138] 44] ∧ KLe K209 K221 ∧ SliceAt tGDoc K221 a225 n226 c227 o218.Docs ∧ LayOk lay232 o218.Entries) ?_ ?_
       ·refine wc_block ?_
        obtain ⟨r235, h236, h237⟩ := ob h219
        have hS252 : SH _ _ _ _ _ [_, _, _, _, _, _, _] := SH.front (p := [_]) hS217
        have hS253 : SH _ _ _ _ _ [_, _, _, _, _, _, _] := SH.front (p := [_, _, _, _, _, _]) hS252
        have hS254 : SH _ _ _ _ _ [_, _, _, _, _, _, _] := SH.front (p := [_, _, _, _, _, _]) hS253
        have hS255 : SH _ _ _ _ _ [_, _, _, _, _, _, _] := SH.front (p := [_, _, _, _, _, _]) hS254
        have hS256 : SH _ _ _ _ _ [_, _, _, _, _, _, _] := SH.front (p := [_, _, _, _, _, _]) hS255
        have hS257 : SH _ _ _ _ _ [_, _, _, _, _, _, _] := SH.front (p := [_, _, _, _, _, _]) hS256
        have hS258 : SH _ _ _ _ _ [_, _, _, _, _, _] := SH.sublist hS257 (.cons_cons _ (.cons_cons _ (.cons_cons _ (.cons_cons _ (.cons_cons _ (.cons_cons _ (.cons _ .slnil)))))))
        refine wc_forE' (fun (i238 : Nat) (s234 : GSeg) E' w' => ∃ (a243 : Option Addr) (n244 c245 : Nat) (a247 : Option Addr) (n248 c249 : Nat) (lay250 : List ELay) (K239 : KMap), E' = [(2, .pointer (some ⟨g13, 0, none⟩)), (4, .pointer (some ⟨g17, 0, none⟩)), (5, .pointer (some ⟨g73, 0, none⟩)), (7, .pointer (some ⟨g141, 0, none⟩)), (9, .pointer (some ⟨g200, 0, none⟩)), (25, .slice a9 n10 c11), (26, .int .i64 (p1_docs.length : Int)), (27, .int .i64 ((i99 : Nat) : Int)), (32, .slice a132 n133 c134), (33, .int .i64 (x123.Fields.length : Int)), (34, .int .i64 ((i167 : Nat) : Int)), (41, .slice a212 n213 c214), (42, .int .i64 (r206.length : Int)), (43, .int .i64 ((i238 : Nat) : Int))] ∧ SH w K [] w' K239 [obj g13 [.slice a1 n2 c3, .slice a5 n6 c7] 26, obj g17 [.slice none 0 0, .slice none 0 0] 30, obj g73 [.slice a243 n244 c245, .slice a247 n248 c249] 30, pack (segItems 94 48 3 a247 n248 c249 lay250), obj g141 [.int .i64 x123.Id, .slice a132 n133 c134, .slice a136 n137 c138] 44, obj g200 [sv x189.Name, sv x189.Text] 109] ∧ KLe K209 K239 ∧ SliceAt tGDoc K239 a243 n244 c245 s234.Docs ∧ LayOk lay250 s234.Entries) h236 ⟨a172, n173, c174, a176, n177, c178, lay179, K209, rfl, hS258, (KLe.refl _), (SliceAt.mono hS211.le hs175), hl180⟩ ⟨rfl, rfl, rfl, rfl, rfl, rfl, rfl, rfl, rfl, rfl, rfl, rfl, rfl, rfl, trivial⟩ ?_ ?_
        ·rintro i238 s234 _ w241 r259 hi260 h261 ⟨a243, n244, c245, a247, n248, c249, lay250, K239, rfl, hS242, hl240, hs246, hl251⟩
         refine sr ?_
         refine wl_val wn rfl (rv_lss rfl rfl) ?_
         refine ns ?_
         refine wc_cond_t rfl (decide_eq_true (by omega)) (wc_skip (qe_seq (wc_seq ?_)))
         refine wc_block ?_
         refine sr ?_
         obtain ⟨x263, hx264, h265⟩ := ob h261
         refine wl_indexAddr (t := tGTerm) wn rfl Tryz.underlying38 tf46 rfl rfl (SliceAt.mono hl240 hs215) hx264 ?_
         intro b266 o267 u268 hu269 ha270
         obtain ⟨rfl, hl271, hr272⟩ := hu269
         have ha273 : AtK _ b266 o267 [sv x263.Text, .int .i64 x263.At] := ha270
         refine wl_val wn rfl (rv_loadS (cs := [sv x263.Text, .int .i64 x263.At]) tf46 rfl hS242 ha273 rfl) ?_
         refine wl_alloc wn rfl tf46 hS242 ?_
         intro g274 w275 hS276
         have hS277 : SH _ _ _ _ _ [obj g274 [sv [], .int .i64 0] 46, _, _, _, _, _, _] := hS276
         refine wl_store (cs' := [sv x263.Text, .int .i64 x263.At]) (v := .agg #[sv x263.Text, .int .i64 x263.At]) wn tf46 rfl rfl rfl (by simp [Value.cells, Value.oneCell', sv]) hS277 rfl rfl ?_
         intro w278 hS279
         refine nq ?_
         refine wc_region ?_
         refine wl_val wn rfl (rv_fieldAddr ff109_0 rfl) ?_
         refine wl_val wn rfl (rv_loadm1 tf9 rfl (.tail _ (.tail _ (.tail _ (.tail _ (.tail _ (.tail _ (.head _))))))) hS279 rfl) ?_
         refine wl_val wn rfl (rv_loadmS (ds := [sv x263.Text, .int .i64 x263.At]) tf46 rfl (.head _) hS279 rfl rfl) ?_
         refine wl_val wn rfl (rv_fieldAddr ff44_0 rfl) ?_
         refine wl_val wn rfl (rv_loadm1 tf3 rfl (.tail _ (.tail _ (.tail _ (.tail _ (.tail _ (.head _)))))) hS279 rfl) ?_
         obtain ⟨r280, hx281, h282⟩ := ob h265
         have hS283 : SH _ _ _ _ _ [_, _, _, _, _, _, _] := SH.front (p := [_, _, _, _]) hS279
         have hS284 : SH _ _ _ _ _ [_, _, _, _, _, _, _] := SH.front (p := [_, _, _, _]) hS283
         refine wl_call wn rfl (rt_call (vs := [.pointer (some ⟨g73, 0, none⟩), sv x189.Name, .agg #[sv x263.Text, .int .i64 x263.At], .int .i64 x123.Id]) co71 rfl) ((ok_impl_Seg_put F) (SH.enter (Lin := [_, _]) hS284) hs246 hl251 hl197 hl271 hr272 hr131 hx281) ?_
         rintro e297 w286 ⟨a288, n289, c290, a292, n293, c294, lay295, K285, rfl, hS287, hs291, hl296⟩
         refine ⟨_, rfl, ?_⟩
         have hS298 : SH _ _ _ _ _ [_, _, _, _, _, _, _] := SH.call (Lin := [_, _]) hS284 hS287
         refine nb ?_
         refine qg ?_
         refine wl_val wn rfl (rv_add_to rfl rfl (w64_succ hi260 (SliceAt.max hs215))) ?_
         refine vm rfl rfl ?_
         refine wl_nil ?_
         obtain rfl := oi h282
         have hS299 : SH _ _ _ _ _ [_, _, _, _, _, _, _] := SH.front (p := [_, _, _, _, _, _]) hS298
         have hS300 : SH _ _ _ _ _ [_, _, _, _, _, _, _] := SH.front (p := [_, _, _, _, _, _]) hS299
         have hS301 : SH _ _ _ _ _ [_, _, _, _, _, _, _] := SH.front (p := [_, _, _]) hS300
         have hS302 : SH _ _ _ _ _ [_, _, _, _, _, _, _] := SH.front (p := [_, _, _]) hS301
         have hS303 : SH _ _ _ _ _ [_, _, _, _, _, _, _] := SH.front (p := [_, _, _, _, _, _]) hS302
         have hS304 : SH _ _ _ _ _ [_, _, _, _, _, _, _] := SH.front (p := [_, _, _, _, _, _]) hS303
         have hS305 : SH _ _ _ _ _ [_, _, _, _, _, _] := SH.sublist hS304 (.cons_cons _ (.cons_cons _ (.cons_cons _ (.cons_cons _ (.cons_cons _ (.cons_cons _ (.cons _ .slnil)))))))
         exact qe_mid' ⟨a288, n289, c290, a292, n293, c294, lay295, K285, rfl, hS305, (hl240.trans hS287.le), hs291, hl296⟩ ⟨rfl, rfl, rfl, rfl, rfl, rfl, rfl, rfl, rfl, rfl, rfl, rfl, rfl, rfl, trivial⟩
        ·rintro s234 _ w241 hr306 ⟨a243, n244, c245, a247, n248, c249, lay250, K239, rfl, hS242, hl240, hs246, hl251⟩
         subst hr306
         refine sr ?_
         refine wl_val wn rfl (rv_lss rfl rfl) ?_
         refine ns ?_
         refine wc_cond_f rfl (decide_eq_false (by omega)) ?_
         refine wc_exit ?_
         refine qe_then_exit ?_
         refine qe_then_exit ?_
         refine qe_block_eq ?_
         obtain rfl := oi h237
         have hS307 : SH _ _ _ _ _ [_, _, _, _, _] := SH.sublist hS242 (.cons_cons _ (.cons_cons _ (.cons_cons _ (.cons_cons _ (.cons_cons _ (.cons _ .slnil))))))
         exact qe_mid' ⟨a243, n244, c245, a247, n248, c249, lay250, K239, rfl, hS307, hl240, hs246, hl251⟩ ⟨rfl, rfl, rfl, rfl, rfl, rfl, rfl, rfl, rfl, rfl, trivial⟩
       ·rintro _ w223 ⟨a225, n226, c227, a229, n230, c231, lay232, K221, rfl, hS224, hl222, hs228, hl233⟩
        refine qe_block ?_
        refine qg ?_
        refine wl_val wn rfl (rv_add_to rfl rfl (w64_succ hi186 (SliceAt.max hs135))) ?_
        refine vm rfl rfl ?_
        refine wl_nil ?_
        obtain rfl := oi h220
        exact qe_mid' ⟨a225, n226, c227, a229, n230, c231, lay232, K221, rfl, hS224, ((hl169.trans hS211.le).trans hl222), hs228, hl233⟩ ⟨rfl, rfl, rfl, rfl, rfl, rfl, rfl, rfl, rfl, rfl, trivial⟩
      ·rintro s163 _ w170 hr308 ⟨a172, n173, c174, a176, n177, c178, lay179, K168, rfl, hS171, hl169, hs175, hl180⟩
       subst hr308
       refine sr ?_
       refine wl_val wn rfl (rv_lss rfl rfl) ?_
       refine ns ?_
       refine wc_cond_f rfl (decide_eq_false (by omega)) ?_
       refine wc_exit ?_
       refine qe_then_exit ?_
       refine qe_then_exit ?_
       refine qe_block_eq ?_
       obtain rfl := oi h166
       have hS309 : SH _ _ _ _ _ [_, _, _, _] := SH.sublist hS171 (.cons_cons _ (.cons_cons _ (.cons_cons _ (.cons_cons _ (.cons _ .slnil)))))
       exact qe_mid' ⟨a172, n173, c174, a176, n177, c178, lay179, K168, rfl, hS309, hl169, hs175, hl180⟩ ⟨rfl, rfl, rfl, rfl, rfl, rfl, trivial⟩
     ·rintro _ w152 ⟨a154, n155, c156, a158, n159, c160, lay161, K150, rfl, hS153, hl151, hs157, hl162⟩
      refine qe_block ?_
      refine qg ?_
      refine wl_val wn rfl (rv_add_to rfl rfl (w64_succ hi120 (SliceAt.max (SliceAt.mono ((hl25.trans hS60.le).trans hl70) hs12)))) ?_
      refine vm rfl rfl ?_
      refine wl_nil ?_
      obtain rfl := oi h149
      exact qe_mid' ⟨a154, n155, c156, a158, n159, c160, lay161, K150, rfl, hS153, (hl101.trans hl151), hs157, hl162⟩ ⟨rfl, rfl, rfl, rfl, rfl, rfl, trivial⟩
    ·rintro s95 _ w102 hr310 ⟨a104, n105, c106, a108, n109, c110, lay111, K100, rfl, hS103, hl101, hs107, hl112⟩
     subst hr310
     refine sr ?_
     refine wl_val wn rfl (rv_lss rfl rfl) ?_
     refine ns ?_
     refine wc_cond_f rfl (decide_eq_false (by omega)) ?_
     refine wc_exit ?_
     refine qe_then_exit ?_
     refine qe_then_exit ?_
     refine qe_block_eq ?_
     obtain rfl := oi h98
     have hS311 : SH _ _ _ _ _ [_, _, _] := SH.sublist hS103 (.cons _ (.cons_cons _ (.cons_cons _ (.cons_cons _ .slnil))))
     exact qe_mid' ⟨a104, n105, c106, a108, n109, c110, lay111, K100, rfl, hS311, hl101, hs107, hl112⟩ ⟨rfl, rfl, trivial⟩
   ·rintro _ w84 ⟨a86, n87, c88, a90, n91, c92, lay93, K82, rfl, hS85, hl83, hs89, hl94⟩
    refine qr ?_
    refine wl_val wn rfl (rv_fieldAddr ff30_1 rfl) ?_
    refine wl_val wn rfl (rv_loadm1 tf28 rfl (.tail _ (.head _)) hS85 rfl) ?_
    have hS312 : SH _ _ _ _ _ [_, _, _] := SH.front (p := [_, _]) hS85
    obtain ⟨K313, cs314, hl315, hrow316, hm317, hS318⟩ := seg_see hS312 hl94
    obtain ⟨x319, hx320, h321⟩ := ob h81
    refine wl_call wn rfl (rt_call (vs := [.slice a90 n91 c92, .func (.func 73) #[] #[]]) co72 rfl) (sort_rowI (T := tGEntry) sortLay72 sortNone72 rfl (fun w => Go.Fk.run_isAgg tf94 w) (fun w => Go.Fk.run_sizeOf tf94 w) (fun a b => M.impl_SegOf_1 F a b) 73 (Go.Proofs.enters_of Tryz.func73 (by kernel_rfl) rfl) hS318 hrow316 hm317 (fun K1 W v x u y r hW h1 h2 hm => by
     obtain ⟨a324, n325, c326, rfl, hl322, hl323, hs327⟩ := h1
     obtain ⟨a330, n331, c332, rfl, hl328, hl329, hs333⟩ := h2
     exact (ok_impl_SegOf_1 F (SH.start hW) hl322 hl323 hs327 hl328 hl329 hs333 hm).mono fun e w' ⟨K', he, hS', _⟩ => ⟨K', he, hS'⟩) hx320) ?_
    rintro e339 w335 ⟨cs334, rfl, hS338, hrow336, hm337⟩
    refine ⟨_, rfl, ?_⟩
    refine nr ?_
    refine wl_val wn rfl (rv_loadmS (ds := [.slice a86 n87 c88, .slice a90 n91 c92]) tf30 rfl (.tail _ (.tail _ (.head _))) hS338 rfl rfl) ?_
    have hS340 : SH _ _ _ _ _ [_, _, _] := SH.front (p := [_]) hS338
    refine wl_store (cs' := [.slice a86 n87 c88, .slice a90 n91 c92]) (v := .agg #[.slice a86 n87 c88, .slice a90 n91 c92]) wn tf30 rfl rfl rfl (by simp [Value.cells, Value.oneCell']) hS340 rfl rfl ?_
    intro w341 hS342
    refine nq ?_
    refine wc_ret ?_
    have hS343 : SH _ _ _ _ _ [_, _, _] := SH.front (p := [_]) hS342
    obtain ⟨K344, hl345, hs346, hS347⟩ := SH.freezeI hS343 hrow336 hm337
    obtain rfl := oi h321
    have hS348 : SH _ _ _ _ _ [_] := SH.sublist hS347 (.cons_cons _ (.cons _ (.cons _ .slnil)))
    exact qe_ret (vs := [_]) Tryz.results23 ⟨⟨_, _, rfl, run_loadVar_at tf30 (cs := [.slice a86 n87 c88, .slice a90 n91 c92]) (fun j c e => by rw [Nat.zero_add, hS347.mem_obj (.tail _ (.head _))]; exact e) (.inl ⟨rfl, rfl, rfl⟩)⟩, trivial⟩ ⟨a86, n87, c88, a90, n91, c92, K344, rfl, hS348, (SliceAt.mono (hl315.trans hl345) hs89), hs346⟩

theorem ok_slices_Equal_int (F : Nat) {w : World} {K : KMap} {a1 : Option Addr} {n2 c3 : Nat} {a5 : Option Addr} {n6 c7 : Nat} {p0_s1 : List Int} {p1_s2 : List Int} {r : Bool} (hS : SH w K [] w K []) (hs4 : SliceAt tInt K a1 n2 c3 p0_s1) (hs8 : SliceAt tInt K a5 n6 c7 p1_s2) (hm : M.slices_Equal_int F p0_s1 p1_s2 = some r) :
  Calls Tryz.prog 140 #[.slice a1 n2 c3, .slice a5 n6 c7] w fun e w' => ∃ (K' : KMap), e = .returned (.bool r) ∧ SH w K [] w' K' [] := by
 rw [M.slices_Equal_int] at hm
 refine calls_in Tryz.func140 rfl Tryz.ntmps140 rfl ?_
 refine sr ?_
 refine wl_val wn rfl (rv_assign (v := .bool false) rfl) ?_
 refine nsr ?_
 refine vm rfl rfl ?_
 refine wl_val wn rfl (rv_len (t := tInt) Tryz.underlying37 rfl hs4) ?_
 refine vm rfl rfl ?_
 refine wl_val wn rfl (rv_len (t := tInt) Tryz.underlying37 rfl hs8) ?_
 refine wl_val wn rfl (rv_neq rfl rfl) ?_
 refine nq ?_
 refine wc_cond rfl (fun hb9 => ?_) (fun hb9 => ?_)
 ·have h10 := cond_t hb9 hm
  refine sr ?_
  refine wl_val wn rfl (rv_assign (v := .bool false) rfl) ?_
  refine nq ?_
  refine rr ?_
  obtain rfl := oi h10
  exact qe_ret (vs := [_]) Tryz.results140 ⟨rfl, trivial⟩ ⟨K, rfl, hS⟩
 ·have h10 := cond_f hb9 hm
  refine wc_skip ?_
  refine qs ?_
  refine sr ?_
  refine vm rfl rfl ?_
  refine wl_val wn rfl (rv_len (t := tInt) Tryz.underlying37 rfl hs4) ?_
  refine wl_val wn rfl (rv_move (v := .int .i64 0) rfl) ?_
  refine nq ?_
  obtain ⟨o11, h12, h13⟩ := ob h10
  refine wc_cutg (fun E' w' => ∃ (s14 : Unit) (K15 : KMap), o11 = .inl s14 ∧ E' = [] ∧ SH w K [] w' K15 [] ∧ KLe K K15) ?_ ?_
  ·refine wc_block ?_
   obtain ⟨r20, h21, h22⟩ := ob h12
   refine wc_for' (fun (i23 : Nat) (s19 : Unit) E' w' => ∃ (K24 : KMap), E' = [(0, .slice a1 n2 c3), (1, .slice a5 n6 c7), (12, .int .i64 (p0_s1.length : Int)), (13, .int .i64 ((i23 : Nat) : Int))] ∧ SH w K [] w' K24 [] ∧ KLe K K24) h21 ⟨K, rfl, hS, (KLe.refl _)⟩ ⟨rfl, rfl, rfl, rfl, trivial⟩ ?_ ?_
   ·rintro i23 s19 _ w26 r28 hi29 h30 hx31 ⟨K24, rfl, hS27, hl25⟩
    refine sr ?_
    refine wl_val wn rfl (rv_lss rfl rfl) ?_
    refine ns ?_
    refine wc_cond_t rfl (decide_eq_true (by omega)) (wc_skip (qe_seq (wc_seq ?_)))
    refine wc_block ?_
    refine sr ?_
    refine vm rfl rfl ?_
    refine va rfl rfl ?_
    refine ns ?_
    refine wc_quiet mixed (by kernel_rfl) hS27 ?_
    refine qm rfl rfl ?_
    refine qm rfl rfl ?_
    obtain ⟨x32, hx33, h34⟩ := ob h30
    refine wq_indexAddr (t := tInt) wn rfl Tryz.underlying37 tf3 rfl rfl (SliceAt.mono hl25 hs4) hx33 ?_
    intro b35 o36 u37 hu38 ha39
    obtain ⟨rfl, hr40⟩ := hu38
    have ha41 : AtK _ b35 o36 [.int .i64 x32] := ha39
    refine wq_val wn rfl (rq_load1 tf3 rfl (ha41 0 _ rfl)) ?_
    refine qm rfl rfl ?_
    refine qm rfl rfl ?_
    obtain ⟨x42, hx43, h44⟩ := ob h34
    refine wq_indexAddr (t := tInt) wn rfl Tryz.underlying37 tf3 rfl rfl (SliceAt.mono hl25 hs8) hx43 ?_
    intro b45 o46 u47 hu48 ha49
    obtain ⟨rfl, hr50⟩ := hu48
    have ha51 : AtK _ b45 o46 [.int .i64 x42] := ha49
    refine wq_val wn rfl (rq_load1 tf3 rfl (ha51 0 _ rfl)) ?_
    refine wq_val wn rfl (fun _ _ => (rv_neq rfl rfl)) ?_
    refine wq_nil ?_
    rintro w53 ⟨K52, hS54, hl55⟩
    refine qe_seq ?_
    refine wc_cond rfl (fun hb56 => ?_) (fun hb56 => ?_)
    ·have h57 := cond_t hb56 h44
     refine sr ?_
     refine wl_val wn rfl (rv_assign (v := .bool false) rfl) ?_
     refine nq ?_
     refine wc_ret ?_
     refine qe_block_ret ?_
     refine qe_then_ret ?_
     refine qe_then_ret ?_
     obtain rfl := oi h57
     have e58 := hx31 _ rfl
     subst e58
     refine qe_block_ret ?_
     refine qe_then_ret ?_
     obtain rfl := oi h22
     refine qe_then_ret ?_
     obtain rfl := oi h13
     exact qe_ret (vs := [_]) Tryz.results140 ⟨rfl, trivial⟩ ⟨K52, rfl, hS54⟩
    ·have h57 := cond_f hb56 h44
     refine wc_skip ?_
     refine qe_block ?_
     refine qg ?_
     refine wl_val wn rfl (rv_add_to rfl rfl (w64_succ hi29 (SliceAt.max hs4))) ?_
     refine vm rfl rfl ?_
     refine wl_nil ?_
     obtain rfl := oi h57
     exact qe_mid' ⟨_, rfl, K52, rfl, hS54, (hl25.trans hl55)⟩ ⟨rfl, rfl, rfl, rfl, trivial⟩
   ·rintro s19 _ w26 hr59 ⟨K24, rfl, hS27, hl25⟩
    subst hr59
    refine sr ?_
    refine wl_val wn rfl (rv_lss rfl rfl) ?_
    refine ns ?_
    refine wc_cond_f rfl (decide_eq_false (by omega)) ?_
    refine wc_exit ?_
    refine qe_then_exit ?_
    refine qe_then_exit ?_
    refine qe_block_eq ?_
    obtain rfl := oi h22
    exact qe_mid' ⟨_, K24, rfl, rfl, hS27, hl25⟩ trivial
  ·rintro _ w17 ⟨s14, K15, rfl, rfl, hS18, hl16⟩
   refine qr ?_
   refine wl_val wn rfl (rv_assign (v := .bool true) rfl) ?_
   refine nq ?_
   refine wc_ret ?_
   obtain rfl := oi h13
   exact qe_ret (vs := [_]) Tryz.results140 ⟨rfl, trivial⟩ ⟨K15, rfl, hS18⟩

theorem ok_impl_samePost (F : Nat) {w : World} {K : KMap} {a2 : Option Addr} {n3 c4 : Nat} {a7 : Option Addr} {n8 c9 : Nat} {p0_a : GPost} {p1_b : GPost} {r : Bool} (hS : SH w K [] w K []) (hr1 : rng64 p0_a.Doc) (hs5 : SliceAt tInt K a2 n3 c4 p0_a.At) (hr6 : rng64 p1_b.Doc) (hs10 : SliceAt tInt K a7 n8 c9 p1_b.At) (hm : M.impl_samePost F p0_a p1_b = some r) :
  Calls Tryz.prog 101 #[.agg #[.int .i64 p0_a.Doc, .slice a2 n3 c4], .agg #[.int .i64 p1_b.Doc, .slice a7 n8 c9]] w fun e w' => ∃ (K' : KMap), e = .returned (.bool r) ∧ SH w K [] w' K' [] := by
 rw [M.impl_samePost] at hm
 refine calls_in Tryz.func101 rfl Tryz.ntmps101 rfl ?_
 refine sr ?_
 refine wl_box wn rfl rfl hS ?_
 intro g11 w12 hS13
 have hS14 : SH _ _ _ _ _ [obj g11 [.int .i64 p0_a.Doc, .slice a2 n3 c4] 48] := hS13
 refine wl_box wn rfl rfl hS14 ?_
 intro g15 w16 hS17
 have hS18 : SH _ _ _ _ _ [obj g15 [.int .i64 p1_b.Doc, .slice a7 n8 c9] 48, _] := hS17
 refine wl_val wn rfl (rv_assign (v := .bool false) rfl) ?_
 refine nr ?_
 refine wl_val wn rfl (rv_fieldAddr ff48_0 rfl) ?_
 refine wl_val wn rfl (rv_loadm1 tf3 rfl (.tail _ (.head _)) hS18 rfl) ?_
 refine wl_val wn rfl (rv_fieldAddr ff48_0 rfl) ?_
 refine wl_val wn rfl (rv_loadm1 tf3 rfl (.head _) hS18 rfl) ?_
 refine wl_val wn rfl (rv_eql rfl rfl) ?_
 refine vm rfl rfl ?_
 rcases bool_tf ((p0_a.Doc == p1_b.Doc)) with hb19 | hb19
 ·have h20 := cond_t hb19 hm
  refine wl_val (wg rfl rfl hb19) rfl (rv_fieldAddr ff48_1 rfl) ?_
  refine wl_val (wg rfl rfl hb19) rfl (rv_loadm1 tf37 rfl (.tail _ (.head _)) hS18 rfl) ?_
  refine wl_val (wg rfl rfl hb19) rfl (rv_fieldAddr ff48_1 rfl) ?_
  refine wl_val (wg rfl rfl hb19) rfl (rv_loadm1 tf37 rfl (.head _) hS18 rfl) ?_
  obtain ⟨r21, hx22, h23⟩ := ob h20
  refine wl_call (wg rfl rfl hb19) rfl (rt_call (vs := [.slice a2 n3 c4, .slice a7 n8 c9]) co140 rfl) ((ok_slices_Equal_int F) hS18.enter0 hs5 hs10 hx22) ?_
  rintro e27 w25 ⟨K24, rfl, hS26⟩
  refine ⟨_, rfl, ?_⟩
  have hS28 : SH _ _ _ _ _ [_, _] := SH.call0 hS18 hS26
  refine wl_val wn rfl (rv_pick_t rfl hb19 rfl) ?_
  refine va rfl rfl ?_
  refine nq ?_
  refine wc_ret ?_
  obtain rfl := oi h23
  have hS29 : SH _ _ _ _ _ [] := SH.sublist hS28 (.cons _ (.cons _ .slnil))
  exact qe_ret (vs := [_]) Tryz.results101 ⟨rfl, trivial⟩ ⟨K24, rfl, hS29⟩
 ·have h20 := cond_f hb19 hm
  refine wl_un (ug rfl rfl hb19) rfl ?_
  refine wl_un (ug rfl rfl hb19) rfl ?_
  refine wl_un (ug rfl rfl hb19) rfl ?_
  refine wl_un (ug rfl rfl hb19) rfl ?_
  refine wl_un (ug rfl rfl hb19) rfl ?_
  refine wl_val wn rfl (rv_pick_f (v := .bool false) rfl hb19 rfl) ?_
  refine va rfl rfl ?_
  refine nq ?_
  refine wc_ret ?_
  obtain rfl := oi h20
  have hS30 : SH _ _ _ _ _ [] := SH.sublist hS18 (.cons _ (.cons _ .slnil))
  exact qe_ret (vs := [_]) Tryz.results101 ⟨rfl, trivial⟩ ⟨K, rfl, hS30⟩

set_option maxHeartbeats 2000000 in
theorem ok_slices_EqualFunc_Post__impl_samePost (F : Nat) {w : World} {K : KMap} {a1 : Option Addr} {n2 c3 : Nat} {a5 : Option Addr} {n6 c7 : Nat} {p0_s1 : List GPost} {p1_s2 : List GPost} {r : Bool} (hS : SH w K [] w K []) (hs4 : SliceAt tGPost K a1 n2 c3 p0_s1) (hs8 : SliceAt tGPost K a5 n6 c7 p1_s2) (hm : M.slices_EqualFunc_Post__impl_samePost F p0_s1 p1_s2 = some r) :
  Calls Tryz.prog 100 #[.slice a1 n2 c3, .slice a5 n6 c7, .func (.func 101) #[] #[]] w fun e w' => ∃ (K' : KMap), e = .returned (.bool r) ∧ SH w K [] w' K' [] := by
 rw [M.slices_EqualFunc_Post__impl_samePost] at hm
 refine calls_in Tryz.func100 rfl Tryz.ntmps100 rfl ?_
 refine sr ?_
 refine wl_val wn rfl (rv_assign (v := .bool false) rfl) ?_
 refine nsr ?_
 refine vm rfl rfl ?_
 refine wl_val wn rfl (rv_len (t := tGPost) Tryz.underlying33 rfl hs4) ?_
 refine vm rfl rfl ?_
 refine wl_val wn rfl (rv_len (t := tGPost) Tryz.underlying33 rfl hs8) ?_
 refine wl_val wn rfl (rv_neq rfl rfl) ?_
 refine nq ?_
 refine wc_cond rfl (fun hb9 => ?_) (fun hb9 => ?_)
 ·have h10 := cond_t hb9 hm
  refine sr ?_
  refine wl_val wn rfl (rv_assign (v := .bool false) rfl) ?_
  refine nq ?_
  refine rr ?_
  obtain rfl := oi h10
  exact qe_ret (vs := [_]) Tryz.results100 ⟨rfl, trivial⟩ ⟨K, rfl, hS⟩
 ·have h10 := cond_f hb9 hm
  refine wc_skip ?_
  refine qs ?_
  refine sr ?_
  refine vm rfl rfl ?_
  refine wl_val wn rfl (rv_len (t := tGPost) Tryz.underlying33 rfl hs4) ?_
  refine wl_val wn rfl (rv_move (v := .int .i64 0) rfl) ?_
  refine nq ?_
  obtain ⟨o11, h12, h13⟩ := ob h10
  refine wc_cutg (fun E' w' => ∃ (s14 : Unit) (K15 : KMap), o11 = .inl s14 ∧ E' = [] ∧ SH w K [] w' K15 [] ∧ KLe K K15) ?_ ?_
  ·refine wc_block ?_
   obtain ⟨r20, h21, h22⟩ := ob h12
   refine wc_for' (fun (i23 : Nat) (s19 : Unit) E' w' => ∃ (K24 : KMap), E' = [(1, .slice a5 n6 c7), (2, .func (.func 101) #[] #[]), (15, .slice a1 n2 c3), (16, .int .i64 (p0_s1.length : Int)), (17, .int .i64 ((i23 : Nat) : Int))] ∧ SH w K [] w' K24 [] ∧ KLe K K24) h21 ⟨K, rfl, hS, (KLe.refl _)⟩ ⟨rfl, rfl, rfl, rfl, rfl, trivial⟩ ?_ ?_
   ·rintro i23 s19 _ w26 r28 hi29 h30 hx31 ⟨K24, rfl, hS27, hl25⟩
    refine sr ?_
    refine wl_val wn rfl (rv_lss rfl rfl) ?_
    refine ns ?_
    refine wc_cond_t rfl (decide_eq_true (by omega)) (wc_skip (qe_seq (wc_seq ?_)))
    refine wc_block ?_
    refine sr ?_
    refine vm rfl rfl ?_
    obtain ⟨x32, hx33, h34⟩ := ob h30
    refine wl_indexAddr (t := tGPost) wn rfl Tryz.underlying33 tf48 rfl rfl (SliceAt.mono hl25 hs4) hx33 ?_
    intro b35 o36 u37 hu38 ha39
    obtain ⟨a41, n42, c43, rfl, hr40, hs44⟩ := hu38
    have ha45 : AtK _ b35 o36 [.int .i64 x32.Doc, .slice a41 n42 c43] := ha39
    refine wl_val wn rfl (rv_loadS (cs := [.int .i64 x32.Doc, .slice a41 n42 c43]) tf48 rfl hS27 ha45 rfl) ?_
    refine wl_alloc wn rfl tf48 hS27 ?_
    intro g46 w47 hS48
    have hS49 : SH _ _ _ _ _ [obj g46 [.int .i64 0, .slice none 0 0] 48] := hS48
    refine va rfl rfl ?_
    refine wl_store (cs' := [.int .i64 x32.Doc, .slice a41 n42 c43]) (v := .agg #[.int .i64 x32.Doc, .slice a41 n42 c43]) wn tf48 rfl rfl rfl (by simp [Value.cells, Value.oneCell']) hS49 rfl rfl ?_
    intro w50 hS51
    refine nr ?_
    refine vm rfl rfl ?_
    refine vm rfl rfl ?_
    obtain ⟨x52, hx53, h54⟩ := ob h34
    refine wl_indexAddr (t := tGPost) wn rfl Tryz.underlying33 tf48 rfl rfl (SliceAt.mono hl25 hs8) hx53 ?_
    intro b55 o56 u57 hu58 ha59
    obtain ⟨a61, n62, c63, rfl, hr60, hs64⟩ := hu58
    have ha65 : AtK _ b55 o56 [.int .i64 x52.Doc, .slice a61 n62 c63] := ha59
    refine wl_val wn rfl (rv_loadS (cs := [.int .i64 x52.Doc, .slice a61 n62 c63]) tf48 rfl hS51 ha65 rfl) ?_
    refine wl_alloc wn rfl tf48 hS51 ?_
    intro g66 w67 hS68
    have hS69 : SH _ _ _ _ _ [obj g66 [.int .i64 0, .slice none 0 0] 48, _] := hS68
    refine wl_store (cs' := [.int .i64 x52.Doc, .slice a61 n62 c63]) (v := .agg #[.int .i64 x52.Doc, .slice a61 n62 c63]) wn tf48 rfl rfl rfl (by simp [Value.cells, Value.oneCell']) hS69 rfl rfl ?_
    intro w70 hS71
    refine nr ?_
    refine vm rfl rfl ?_
    refine wl_val wn rfl (rv_loadmS (ds := [.int .i64 x32.Doc, .slice a41 n42 c43]) tf48 rfl (.tail _ (.head _)) hS71 rfl rfl) ?_
    refine wl_val wn rfl (rv_loadmS (ds := [.int .i64 x52.Doc, .slice a61 n62 c63]) tf48 rfl (.head _) hS71 rfl rfl) ?_
    obtain ⟨r72, hx73, h74⟩ := ob h54
    refine wl_call wn rfl (rt_callv (vs := [.agg #[.int .i64 x32.Doc, .slice a41 n42 c43], .agg #[.int .i64 x52.Doc, .slice a61 n62 c63]]) (cap := #[]) co101 rfl rfl) ((ok_impl_samePost F) hS71.enter0 hr40 hs44 hr60 hs64 hx73) ?_
    rintro e78 w76 ⟨K75, rfl, hS77⟩
    refine ⟨_, rfl, ?_⟩
    have hS79 : SH _ _ _ _ _ [_, _] := SH.call0 hS71 hS77
    refine wl_val wn rfl (rv_not rfl) ?_
    refine nq ?_
    refine wc_cond rfl (fun hb80 => ?_) (fun hb80 => ?_)
    ·have h81 := cond_t hb80 h74
     refine sr ?_
     refine wl_val wn rfl (rv_assign (v := .bool false) rfl) ?_
     refine nq ?_
     refine wc_ret ?_
     refine qe_block_ret ?_
     refine qe_then_ret ?_
     refine qe_then_ret ?_
     obtain rfl := oi h81
     have e82 := hx31 _ rfl
     subst e82
     refine qe_block_ret ?_
     refine qe_then_ret ?_
     obtain rfl := oi h22
     refine qe_then_ret ?_
     obtain rfl := oi h13
     have hS83 : SH _ _ _ _ _ [] := SH.sublist hS79 (.cons _ (.cons _ .slnil))
     exact qe_ret (vs := [_]) Tryz.results100 ⟨rfl, trivial⟩ ⟨K75, rfl, hS83⟩
    ·have h81 := cond_f hb80 h74
     refine wc_skip ?_
     refine qe_block ?_
     refine qg ?_
     refine wl_val wn rfl (rv_add_to rfl rfl (w64_succ hi29 (SliceAt.max hs4))) ?_
     refine vm rfl rfl ?_
     refine wl_nil ?_
     obtain rfl := oi h81
     have hS84 : SH _ _ _ _ _ [] := SH.sublist hS79 (.cons _ (.cons _ .slnil))
     exact qe_mid' ⟨_, rfl, K75, rfl, hS84, (hl25.trans hS77.le)⟩ ⟨rfl, rfl, rfl, rfl, rfl, trivial⟩
   ·rintro s19 _ w26 hr85 ⟨K24, rfl, hS27, hl25⟩
    subst hr85
    refine sr ?_
    refine wl_val wn rfl (rv_lss rfl rfl) ?_
    refine ns ?_
    refine wc_cond_f rfl (decide_eq_false (by omega)) ?_
    refine wc_exit ?_
    refine qe_then_exit ?_
    refine qe_then_exit ?_
    refine qe_block_eq ?_
    obtain rfl := oi h22
    exact qe_mid' ⟨_, K24, rfl, rfl, hS27, hl25⟩ trivial
  ·rintro _ w17 ⟨s14, K15, rfl, rfl, hS18, hl16⟩
   refine qr ?_
   refine wl_val wn rfl (rv_assign (v := .bool true) rfl) ?_
   refine nq ?_
   refine wc_ret ?_
   obtain rfl := oi h13
   exact qe_ret (vs := [_]) Tryz.results100 ⟨rfl, trivial⟩ ⟨K15, rfl, hS18⟩

theorem ok_impl_sameEntry (F : Nat) {w : World} {K : KMap} {a3 : Option Addr} {n4 c5 : Nat} {a9 : Option Addr} {n10 c11 : Nat} {p0_a : GEntry} {p1_b : GEntry} {r : Bool} (hS : SH w K [] w K []) (hl1 : p0_a.Field.length ≤ maxLen) (hl2 : p0_a.Term.length ≤ maxLen) (hs6 : SliceAt tGPost K a3 n4 c5 p0_a.Posts) (hl7 : p1_b.Field.length ≤ maxLen) (hl8 : p1_b.Term.length ≤ maxLen) (hs12 : SliceAt tGPost K a9 n10 c11 p1_b.Posts) (hm : M.impl_sameEntry F p0_a p1_b = some r) :
  Calls Tryz.prog 54 #[.agg #[sv p0_a.Field, sv p0_a.Term, .slice a3 n4 c5], .agg #[sv p1_b.Field, sv p1_b.Term, .slice a9 n10 c11]] w fun e w' => ∃ (K' : KMap), e = .returned (.bool r) ∧ SH w K [] w' K' [] := by
 rw [M.impl_sameEntry] at hm
 refine calls_in Tryz.func54 rfl Tryz.ntmps54 rfl ?_
 refine sr ?_
 refine wl_box wn rfl rfl hS ?_
 intro g13 w14 hS15
 have hS16 : SH _ _ _ _ _ [obj g13 [sv p0_a.Field, sv p0_a.Term, .slice a3 n4 c5] 94] := hS15
 refine wl_box wn rfl rfl hS16 ?_
 intro g17 w18 hS19
 have hS20 : SH _ _ _ _ _ [obj g17 [sv p1_b.Field, sv p1_b.Term, .slice a9 n10 c11] 94, _] := hS19
 refine wl_val wn rfl (rv_assign (v := .bool false) rfl) ?_
 refine nr ?_
 refine wl_val wn rfl (rv_fieldAddr ff94_0 rfl) ?_
 refine wl_val wn rfl (rv_loadm1 tf9 rfl (.tail _ (.head _)) hS20 rfl) ?_
 refine wl_val wn rfl (rv_fieldAddr ff94_0 rfl) ?_
 refine wl_val wn rfl (rv_loadm1 tf9 rfl (.head _) hS20 rfl) ?_
 refine wl_val wn rfl (rv_seql rfl rfl) ?_
 refine vm rfl rfl ?_
 rcases bool_tf ((p0_a.Field == p1_b.Field)) with hb21 | hb21
 ·have h22 := cond_t hb21 hm
  refine wl_val (wg rfl rfl hb21) rfl (rv_fieldAddr ff94_1 rfl) ?_
  refine wl_val (wg rfl rfl hb21) rfl (rv_loadm1 tf9 rfl (.tail _ (.head _)) hS20 rfl) ?_
  refine wl_val (wg rfl rfl hb21) rfl (rv_fieldAddr ff94_1 rfl) ?_
  refine wl_val (wg rfl rfl hb21) rfl (rv_loadm1 tf9 rfl (.head _) hS20 rfl) ?_
  refine wl_val (wg rfl rfl hb21) rfl (rv_seql rfl rfl) ?_
  refine wl_val wn rfl (rv_pick_t rfl hb21 rfl) ?_
  refine vm rfl rfl ?_
  rcases bool_tf ((p0_a.Term == p1_b.Term)) with hb23 | hb23
  ·have h24 := cond_t hb23 h22
   refine wl_val (wg rfl rfl hb23) rfl (rv_fieldAddr ff94_2 rfl) ?_
   refine wl_val (wg rfl rfl hb23) rfl (rv_loadm1 tf33 rfl (.tail _ (.head _)) hS20 rfl) ?_
   refine wl_val (wg rfl rfl hb23) rfl (rv_fieldAddr ff94_2 rfl) ?_
   refine wl_val (wg rfl rfl hb23) rfl (rv_loadm1 tf33 rfl (.head _) hS20 rfl) ?_
   obtain ⟨r25, hx26, h27⟩ := ob h24
   refine wl_call (wg rfl rfl hb23) rfl (rt_call (vs := [.slice a3 n4 c5, .slice a9 n10 c11, .func (.func 101) #[] #[]]) co100 rfl) ((ok_slices_EqualFunc_Post__impl_samePost F) hS20.enter0 hs6 hs12 hx26) ?_
   rintro e31 w29 ⟨K28, rfl, hS30⟩
   refine ⟨_, rfl, ?_⟩
   have hS32 : SH _ _ _ _ _ [_, _] := SH.call0 hS20 hS30
   refine wl_val wn rfl (rv_pick_t rfl hb23 rfl) ?_
   refine va rfl rfl ?_
   refine nq ?_
   refine wc_ret ?_
   obtain rfl := oi h27
   have hS33 : SH _ _ _ _ _ [] := SH.sublist hS32 (.cons _ (.cons _ .slnil))
   exact qe_ret (vs := [_]) Tryz.results54 ⟨rfl, trivial⟩ ⟨K28, rfl, hS33⟩
  ·have h24 := cond_f hb23 h22
   refine wl_un (ug rfl rfl hb23) rfl ?_
   refine wl_un (ug rfl rfl hb23) rfl ?_
   refine wl_un (ug rfl rfl hb23) rfl ?_
   refine wl_un (ug rfl rfl hb23) rfl ?_
   refine wl_un (ug rfl rfl hb23) rfl ?_
   refine wl_val wn rfl (rv_pick_f (v := .bool false) rfl hb23 rfl) ?_
   refine va rfl rfl ?_
   refine nq ?_
   refine wc_ret ?_
   obtain rfl := oi h24
   have hS34 : SH _ _ _ _ _ [] := SH.sublist hS20 (.cons _ (.cons _ .slnil))
   exact qe_ret (vs := [_]) Tryz.results54 ⟨rfl, trivial⟩ ⟨K, rfl, hS34⟩
 ·have h22 := cond_f hb21 hm
  refine wl_un (ug rfl rfl hb21) rfl ?_
  refine wl_un (ug rfl rfl hb21) rfl ?_
  refine wl_un (ug rfl rfl hb21) rfl ?_
  refine wl_un (ug rfl rfl hb21) rfl ?_
  refine wl_un (ug rfl rfl hb21) rfl ?_
  refine wl_val wn rfl (rv_pick_f (v := .bool false) rfl hb21 rfl) ?_
  refine vm rfl rfl ?_
  refine wl_un (ug rfl rfl rfl) rfl ?_
  refine wl_un (ug rfl rfl rfl) rfl ?_
  refine wl_un (ug rfl rfl rfl) rfl ?_
  refine wl_un (ug rfl rfl rfl) rfl ?_
  refine wl_un (ug rfl rfl rfl) rfl ?_
  refine wl_val wn rfl (rv_pick_f (v := .bool false) rfl rfl rfl) ?_
  refine va rfl rfl ?_
  refine nq ?_
  refine wc_ret ?_
  obtain rfl := oi h22
  have hS35 : SH _ _ _ _ _ [] := SH.sublist hS20 (.cons _ (.cons _ .slnil))
  exact qe_ret (vs := [_]) Tryz.results54 ⟨rfl, trivial⟩ ⟨K, rfl, hS35⟩

set_option maxHeartbeats 2000000 in
theorem ok_slices_EqualFunc_Entry__impl_sameEntry (F : Nat) {w : World} {K : KMap} {a1 : Option Addr} {n2 c3 : Nat} {a5 : Option Addr} {n6 c7 : Nat} {p0_s1 : List GEntry} {p1_s2 : List GEntry} {r : Bool} (hS : SH w K [] w K []) (hs4 : SliceAt tGEntry K a1 n2 c3 p0_s1) (hs8 : SliceAt tGEntry K a5 n6 c7 p1_s2) (hm : M.slices_EqualFunc_Entry__impl_sameEntry F p0_s1 p1_s2 = some r) :
  Calls Tryz.prog 53 #[.slice a1 n2 c3, .slice a5 n6 c7, .func (.func 54) #[] #[]] w fun e w' => ∃ (K' : KMap), e = .returned (.bool r) ∧ SH w K [] w' K' [] := by
 rw [M.slices_EqualFunc_Entry__impl_sameEntry] at hm
 refine calls_in Tryz.func53 rfl Tryz.ntmps53 rfl ?_
 refine sr ?_
 refine wl_val wn rfl (rv_assign (v := .bool false) rfl) ?_
 refine nsr ?_
 refine vm rfl rfl ?_
 refine wl_val wn rfl (rv_len (t := tGEntry) Tryz.underlying28 rfl hs4) ?_
 refine vm rfl rfl ?_
 refine wl_val wn rfl (rv_len (t := tGEntry) Tryz.underlying28 rfl hs8) ?_
 refine wl_val wn rfl (rv_neq rfl rfl) ?_
 refine nq ?_
 refine wc_cond rfl (fun hb9 => ?_) (fun hb9 => ?_)
 ·have h10 := cond_t hb9 hm
  refine sr ?_
  refine wl_val wn rfl (rv_assign (v := .bool false) rfl) ?_
  refine nq ?_
  refine rr ?_
  obtain rfl := oi h10
  exact qe_ret (vs := [_]) Tryz.results53 ⟨rfl, trivial⟩ ⟨K, rfl, hS⟩
 ·have h10 := cond_f hb9 hm
  refine wc_skip ?_
  refine qs ?_
  refine sr ?_
  refine vm rfl rfl ?_
  refine wl_val wn rfl (rv_len (t := tGEntry) Tryz.underlying28 rfl hs4) ?_
  refine wl_val wn rfl (rv_move (v := .int .i64 0) rfl) ?_
  refine nq ?_
  obtain ⟨o11, h12, h13⟩ := ob h10
  refine wc_cutg (fun E' w' => ∃ (s14 : Unit) (K15 : KMap), o11 = .inl s14 ∧ E' = [] ∧ SH w K [] w' K15 [] ∧ KLe K K15) ?_ ?_
  ·refine wc_block ?_
   obtain ⟨r20, h21, h22⟩ := ob h12
   refine wc_for' (fun (i23 : Nat) (s19 : Unit) E' w' => ∃ (K24 : KMap), E' = [(1, .slice a5 n6 c7), (2, .func (.func 54) #[] #[]), (15, .slice a1 n2 c3), (16, .int .i64 (p0_s1.length : Int)), (17, .int .i64 ((i23 : Nat) : Int))] ∧ SH w K [] w' K24 [] ∧ KLe K K24) h21 ⟨K, rfl, hS, (KLe.refl _)⟩ ⟨rfl, rfl, rfl, rfl, rfl, trivial⟩ ?_ ?_
   ·rintro i23 s19 _ w26 r28 hi29 h30 hx31 ⟨K24, rfl, hS27, hl25⟩
    refine sr ?_
    refine wl_val wn rfl (rv_lss rfl rfl) ?_
    refine ns ?_
    refine wc_cond_t rfl (decide_eq_true (by omega)) (wc_skip (qe_seq (wc_seq ?_)))
    refine wc_block ?_
    refine sr ?_
    refine vm rfl rfl ?_
    obtain ⟨x32, hx33, h34⟩ := ob h30
    refine wl_indexAddr (t := tGEntry) wn rfl Tryz.underlying28 tf94 rfl rfl (SliceAt.mono hl25 hs4) hx33 ?_
    intro b35 o36 u37 hu38 ha39
    obtain ⟨a42, n43, c44, rfl, hl40, hl41, hs45⟩ := hu38
    have ha46 : AtK _ b35 o36 [sv x32.Field, sv x32.Term, .slice a42 n43 c44] := ha39
    refine wl_val wn rfl (rv_loadS (cs := [sv x32.Field, sv x32.Term, .slice a42 n43 c44]) tf94 rfl hS27 ha46 rfl) ?_
    refine wl_alloc wn rfl tf94 hS27 ?_
    intro g47 w48 hS49
    have hS50 : SH _ _ _ _ _ [obj g47 [sv [], sv [], .slice none 0 0] 94] := hS49
    refine va rfl rfl ?_
    refine wl_store (cs' := [sv x32.Field, sv x32.Term, .slice a42 n43 c44]) (v := .agg #[sv x32.Field, sv x32.Term, .slice a42 n43 c44]) wn tf94 rfl rfl rfl (by simp [Value.cells, Value.oneCell', sv]) hS50 rfl rfl ?_
    intro w51 hS52
    refine nr ?_
    refine vm rfl rfl ?_
    refine vm rfl rfl ?_
    obtain ⟨x53, hx54, h55⟩ := ob h34
    refine wl_indexAddr (t := tGEntry) wn rfl Tryz.underlying28 tf94 rfl rfl (SliceAt.mono hl25 hs8) hx54 ?_
    intro b56 o57 u58 hu59 ha60
    obtain ⟨a63, n64, c65, rfl, hl61, hl62, hs66⟩ := hu59
    have ha67 : AtK _ b56 o57 [sv x53.Field, sv x53.Term, .slice a63 n64 c65] := ha60
    refine wl_val wn rfl (rv_loadS (cs := [sv x53.Field, sv x53.Term, .slice a63 n64 c65]) tf94 rfl hS52 ha67 rfl) ?_
    refine wl_alloc wn rfl tf94 hS52 ?_
    intro g68 w69 hS70
    have hS71 : SH _ _ _ _ _ [obj g68 [sv [], sv [], .slice none 0 0] 94, _] := hS70
    refine wl_store (cs' := [sv x53.Field, sv x53.Term, .slice a63 n64 c65]) (v := .agg #[sv x53.Field, sv x53.Term, .slice a63 n64 c65]) wn tf94 rfl rfl rfl (by simp [Value.cells, Value.oneCell', sv]) hS71 rfl rfl ?_
    intro w72 hS73
    refine nr ?_
    refine vm rfl rfl ?_
    refine wl_val wn rfl (rv_loadmS (ds := [sv x32.Field, sv x32.Term, .slice a42 n43 c44]) tf94 rfl (.tail _ (.head _)) hS73 rfl rfl) ?_
    refine wl_val wn rfl (rv_loadmS (ds := [sv x53.Field, sv x53.Term, .slice a63 n64 c65]) tf94 rfl (.head _) hS73 rfl rfl) ?_
    obtain ⟨r74, hx75, h76⟩ := ob h55
    refine wl_call wn rfl (rt_callv (vs := [.agg #[sv x32.Field, sv x32.Term, .slice a42 n43 c44], .agg #[sv x53.Field, sv x53.Term, .slice a63 n64 c65]]) (cap := #[]) co54 rfl rfl) ((ok_impl_sameEntry F) hS73.enter0 hl40 hl41 hs45 hl61 hl62 hs66 hx75) ?_
    rintro e80 w78 ⟨K77, rfl, hS79⟩
    refine ⟨_, rfl, ?_⟩
    have hS81 : SH _ _ _ _ _ [_, _] := SH.call0 hS73 hS79
    refine wl_val wn rfl (rv_not rfl) ?_
    refine nq ?_
    refine wc_cond rfl (fun hb82 => ?_) (fun hb82 => ?_)
    ·have h83 := cond_t hb82 h76
     refine sr ?_
     refine wl_val wn rfl (rv_assign (v := .bool false) rfl) ?_
     refine nq ?_
     refine wc_ret ?_
     refine qe_block_ret ?_
     refine qe_then_ret ?_
     refine qe_then_ret ?_
     obtain rfl := oi h83
     have e84 := hx31 _ rfl
     subst e84
     refine qe_block_ret ?_
     refine qe_then_ret ?_
     obtain rfl := oi h22
     refine qe_then_ret ?_
     obtain rfl := oi h13
     have hS85 : SH _ _ _ _ _ [] := SH.sublist hS81 (.cons _ (.cons _ .slnil))
     exact qe_ret (vs := [_]) Tryz.results53 ⟨rfl, trivial⟩ ⟨K77, rfl, hS85⟩
    ·have h83 := cond_f hb82 h76
     refine wc_skip ?_
     refine qe_block ?_
     refine qg ?_
     refine wl_val wn rfl (rv_add_to rfl rfl (w64_succ hi29 (SliceAt.max hs4))) ?_
     refine vm rfl rfl ?_
     refine wl_nil ?_
     obtain rfl := oi h83
     have hS86 : SH _ _ _ _ _ [] := SH.sublist hS81 (.cons _ (.cons _ .slnil))
     exact qe_mid' ⟨_, rfl, K77, rfl, hS86, (hl25.trans hS79.le)⟩ ⟨rfl, rfl, rfl, rfl, rfl, trivial⟩
   ·rintro s19 _ w26 hr87 ⟨K24, rfl, hS27, hl25⟩
    subst hr87
    refine sr ?_
    refine wl_val wn rfl (rv_lss rfl rfl) ?_
    refine ns ?_
    refine wc_cond_f rfl (decide_eq_false (by omega)) ?_
    refine wc_exit ?_
    refine qe_then_exit ?_
    refine qe_then_exit ?_
    refine qe_block_eq ?_
    obtain rfl := oi h22
    exact qe_mid' ⟨_, K24, rfl, rfl, hS27, hl25⟩ trivial
  ·rintro _ w17 ⟨s14, K15, rfl, rfl, hS18, hl16⟩
   refine qr ?_
   refine wl_val wn rfl (rv_assign (v := .bool true) rfl) ?_
   refine nq ?_
   refine wc_ret ?_
   obtain rfl := oi h13
   exact qe_ret (vs := [_]) Tryz.results53 ⟨rfl, trivial⟩ ⟨K15, rfl, hS18⟩

theorem ok_impl_SegOk (F : Nat) {w : World} {K : KMap} {a1 : Option Addr} {n2 c3 : Nat} {a5 : Option Addr} {n6 c7 : Nat} {a9 : Option Addr} {n10 c11 : Nat} {a13 : Option Addr} {n14 c15 : Nat} {p0_c : GConf} {p1_s : GSeg} {r : Bool} (hS : SH w K [] w K []) (hs4 : SliceAt tStr K a1 n2 c3 p0_c.Stops) (hs8 : SliceAt tGSyn K a5 n6 c7 p0_c.Syns) (hs12 : SliceAt tGDoc K a9 n10 c11 p1_s.Docs) (hs16 : SliceAt tGEntry K a13 n14 c15 p1_s.Entries) (hm : M.impl_SegOk F p0_c p1_s = some r) :
  Calls Tryz.prog 13 #[.agg #[.slice a1 n2 c3, .slice a5 n6 c7], .agg #[.slice a9 n10 c11, .slice a13 n14 c15]] w fun e w' => ∃ (K' : KMap), e = .returned (.bool r) ∧ SH w K [] w' K' [] := by
 rw [M.impl_SegOk] at hm
 refine calls_in Tryz.func13 rfl Tryz.ntmps13 rfl ?_
 refine sr ?_
 refine wl_box wn rfl rfl hS ?_
 intro g17 w18 hS19
 have hS20 : SH _ _ _ _ _ [obj g17 [.slice a1 n2 c3, .slice a5 n6 c7] 26] := hS19
 refine wl_box wn rfl rfl hS20 ?_
 intro g21 w22 hS23
 have hS24 : SH _ _ _ _ _ [obj g21 [.slice a9 n10 c11, .slice a13 n14 c15] 30, _] := hS23
 refine wl_val wn rfl (rv_assign (v := .bool false) rfl) ?_
 refine ns ?_
 refine wc_seq ?_
 obtain ⟨o25, h26, h27⟩ := ob hm
 refine wc_cutg (fun E' w' => ∃ (K28 : KMap), E' = [(2, .pointer (some ⟨g17, 0, none⟩)), (3, .pointer (some ⟨g21, 0, none⟩)), (13, .bool o25)] ∧ SH w K [] w' K28 [obj g17 [.slice a1 n2 c3, .slice a5 n6 c7] 26, obj g21 [.slice a9 n10 c11, .slice a13 n14 c15] 30] ∧ KLe K K28) ?_ ?_
 ·refine wc_region ?_
  refine wl_val wn rfl (rv_loadmS (ds := [.slice a1 n2 c3, .slice a5 n6 c7]) tf26 rfl (.tail _ (.head _)) hS24 rfl rfl) ?_
  obtain ⟨r32, hx33, h34⟩ := ob h26
  refine wl_call wn rfl (rt_call (vs := [.agg #[.slice a1 n2 c3, .slice a5 n6 c7]]) co51 rfl) ((ok_impl_ConfOk F) hS24.enter0 hs4 hs8 hx33) ?_
  rintro e38 w36 ⟨K35, rfl, hS37⟩
  refine ⟨_, rfl, ?_⟩
  have hS39 : SH _ _ _ _ _ [_, _] := SH.call0 hS24 hS37
  refine wl_val wn rfl (rv_not rfl) ?_
  refine vm rfl rfl ?_
  rcases bool_tf ((!r32)) with hb40 | hb40
  ·have h41 := cond_t hb40 h34
   refine wl_un (ug rfl rfl hb40) rfl ?_
   refine wl_un (ug rfl rfl hb40) rfl ?_
   refine wl_un (ug rfl rfl hb40) rfl ?_
   refine wl_un (ug rfl rfl hb40) rfl ?_
   refine wl_val wn rfl (rv_pick_t (v := .bool true) rfl hb40 rfl) ?_
   refine wl_nil ?_
   obtain rfl := oi h41
   have hS42 : SH _ _ _ _ _ [_, _] := SH.front (p := [_]) hS39
   exact qe_mid' ⟨K35, rfl, hS42, hS37.le⟩ ⟨rfl, rfl, rfl, trivial⟩
  ·have h41 := cond_f hb40 h34
   refine wl_val (wg rfl rfl hb40) rfl (rv_fieldAddr ff30_0 rfl) ?_
   refine wl_val (wg rfl rfl hb40) rfl (rv_loadm1 tf27 rfl (.head _) hS39 rfl) ?_
   obtain ⟨r43, hx44, h45⟩ := ob h41
   refine wl_call (wg rfl rfl hb40) rfl (rt_call (vs := [.slice a9 n10 c11]) co52 rfl) ((ok_impl_DocsOk F) hS39.enter0 (SliceAt.mono hS37.le hs12) hx44) ?_
   rintro e49 w47 ⟨K46, rfl, hS48⟩
   refine ⟨_, rfl, ?_⟩
   have hS50 : SH _ _ _ _ _ [_, _] := SH.call0 hS39 hS48
   refine wl_val (wg rfl rfl hb40) rfl (rv_not rfl) ?_
   refine wl_val wn rfl (rv_pick_f rfl hb40 rfl) ?_
   refine wl_nil ?_
   obtain rfl := oi h45
   have hS51 : SH _ _ _ _ _ [_, _] := SH.front (p := [_]) hS50
   exact qe_mid' ⟨K46, rfl, hS51, (hS37.le.trans hS48.le)⟩ ⟨rfl, rfl, rfl, trivial⟩
 ·rintro _ w30 ⟨K28, rfl, hS31, hl29⟩
  refine qe_seq ?_
  refine wc_cond rfl (fun hb52 => ?_) (fun hb52 => ?_)
  ·have h53 := cond_t hb52 h27
   refine sr ?_
   refine wl_val wn rfl (rv_assign (v := .bool false) rfl) ?_
   refine nq ?_
   refine rr ?_
   obtain rfl := oi h53
   have hS54 : SH _ _ _ _ _ [] := SH.sublist hS31 (.cons _ (.cons _ .slnil))
   exact qe_ret (vs := [_]) Tryz.results13 ⟨rfl, trivial⟩ ⟨K28, rfl, hS54⟩
  ·have h53 := cond_f hb52 h27
   refine wc_skip ?_
   refine qs ?_
   refine wc_held (fun w' => Holds K28 w' ∧ HasObj g17 [.slice a1 n2 c3, .slice a5 n6 c7] w' ∧ HasObj g21 [.slice a9 n10 c11, .slice a13 n14 c15] w') (fun w' => True) 9 [] mixed ?_
   have hS56 := SH.drew hS31
   refine wg_val (i := 0) (listed' := #[true, false, false, false, false, false, false, false, false]) (HasObj g17 [.slice a1 n2 c3, .slice a5 n6 c7]) rfl (by kernel_rfl) (pk_then pk_body) (by kernel_rfl) rfl (by kernel_rfl) (by kernel_rfl) rfl (.inl fun _ h => h.2.1) ⟨⟨hS56.hasK (KLe.refl _), hS56.hasObj (.head _), hS56.hasObj (.tail _ (.head _))⟩, (fun _ => trivial), by decide⟩ wn rfl (fun _ h => rh_loadmS (ds := [.slice a1 n2 c3, .slice a5 n6 c7]) tf26 rfl rfl rfl h) ?_
   refine wg_val (i := 1) (listed' := #[true, true, false, false, false, false, false, false, false]) (fun _ => True) rfl (by kernel_rfl) (pk_then pk_body) (by kernel_rfl) rfl (by kernel_rfl) (by kernel_rfl) rfl (.inl fun _ _ => trivial) ⟨⟨hS56.hasK (KLe.refl _), hS56.hasObj (.head _), hS56.hasObj (.tail _ (.head _))⟩, (fun _ => trivial), by decide⟩ wn rfl (fun _ _ => (rv_fieldAddr ff30_0 rfl)) ?_
   refine wg_val (i := 2) (listed' := #[true, true, true, false, false, false, false, false, false]) (HasObj g21 [.slice a9 n10 c11, .slice a13 n14 c15]) rfl (by kernel_rfl) (pk_then pk_body) (by kernel_rfl) rfl (by kernel_rfl) (by kernel_rfl) rfl (.inl fun _ h => h.2.2) ⟨⟨hS56.hasK (KLe.refl _), hS56.hasObj (.head _), hS56.hasObj (.tail _ (.head _))⟩, (fun _ => trivial), by decide⟩ wn rfl (fun _ h => rh_loadm1 tf27 rfl rfl h) ?_
   refine wg_val (i := 5) (listed' := #[true, true, true, false, false, true, false, false, false]) (fun _ => True) rfl (by kernel_rfl) (pk_then pk_body) (by kernel_rfl) rfl (by kernel_rfl) (by kernel_rfl) rfl (.inl fun _ _ => trivial) ⟨⟨hS56.hasK (KLe.refl _), hS56.hasObj (.head _), hS56.hasObj (.tail _ (.head _))⟩, (fun _ => trivial), by decide⟩ wn rfl (fun _ _ => (rv_fieldAddr ff30_1 rfl)) ?_
   refine wg_val (i := 6) (listed' := #[true, true, true, false, false, true, true, false, false]) (HasObj g21 [.slice a9 n10 c11, .slice a13 n14 c15]) rfl (by kernel_rfl) (pk_then pk_body) (by kernel_rfl) rfl (by kernel_rfl) (by kernel_rfl) rfl (.inl fun _ h => h.2.2) ⟨⟨hS56.hasK (KLe.refl _), hS56.hasObj (.head _), hS56.hasObj (.tail _ (.head _))⟩, (fun _ => trivial), by decide⟩ wn rfl (fun _ h => rh_loadm1 tf28 rfl rfl h) ?_
   refine wg_one (i := 3) (by kernel_rfl) rfl ?_
   obtain ⟨r57, hx58, h59⟩ := ob h53
   refine wl_call wn rfl (rt_call (vs := [.agg #[.slice a1 n2 c3, .slice a5 n6 c7], .slice a9 n10 c11]) co23 rfl) ((ok_impl_SegOf F) hS56.enter0 (SliceAt.mono hl29 hs4) (SliceAt.mono hl29 hs8) (SliceAt.mono hl29 hs12) hx58) ?_
   rintro e71 w61 ⟨a63, n64, c65, a67, n68, c69, K60, rfl, hS62, hs66, hs70⟩
   refine ⟨_, rfl, ?_⟩
   have hS72 : SH _ _ _ _ _ [_, _, _] := SH.call0 hS56 hS62
   refine wl_nil (qe_held (listed' := #[true, true, true, true, false, true, true, false, false]) rfl ⟨⟨hS72.hasK hS62.le, hS72.hasObj (.tail _ (.head _)), hS72.hasObj (.tail _ (.tail _ (.head _)))⟩, (fun _ => trivial), by decide⟩ ?_)
   refine wg_val (i := 4) (listed' := #[true, true, true, true, true, true, true, false, false]) (fun _ => True) rfl (by kernel_rfl) (pk_then pk_body) (by kernel_rfl) rfl (by kernel_rfl) (by kernel_rfl) rfl (.inl fun _ _ => trivial) ⟨⟨hS72.hasK hS62.le, hS72.hasObj (.tail _ (.head _)), hS72.hasObj (.tail _ (.tail _ (.head _)))⟩, (fun _ => trivial), by decide⟩ wn rfl (fun _ _ => (rv_field fg30_1 tf28 rfl (.inl ⟨rfl, rfl⟩))) ?_
   refine wg_one (i := 7) (by kernel_rfl) rfl ?_
   obtain ⟨r73, hx74, h75⟩ := ob h59
   refine wl_call wn rfl (rt_call (vs := [.slice a67 n68 c69, .slice a13 n14 c15, .func (.func 54) #[] #[]]) co53 rfl) ((ok_slices_EqualFunc_Entry__impl_sameEntry F) hS72.enter0 hs70 (SliceAt.mono (hl29.trans hS62.le) hs16) hx74) ?_
   rintro e79 w77 ⟨K76, rfl, hS78⟩
   refine ⟨_, rfl, ?_⟩
   have hS80 : SH _ _ _ _ _ [_, _, _] := SH.call0 hS72 hS78
   refine wl_nil (qe_held (listed' := #[true, true, true, true, true, true, true, true, false]) rfl ⟨⟨hS80.hasK (hS62.le.trans hS78.le), hS80.hasObj (.tail _ (.head _)), hS80.hasObj (.tail _ (.tail _ (.head _)))⟩, (fun _ => trivial), by decide⟩ ?_)
   refine wg_val (i := 8) (listed' := #[true, true, true, true, true, true, true, true, true]) (fun _ => True) rfl (by kernel_rfl) (pk_then pk_body) (by kernel_rfl) rfl (by kernel_rfl) (by kernel_rfl) rfl (.inl fun _ _ => trivial) ⟨⟨hS80.hasK (hS62.le.trans hS78.le), hS80.hasObj (.tail _ (.head _)), hS80.hasObj (.tail _ (.tail _ (.head _)))⟩, (fun _ => trivial), by decide⟩ wn rfl (fun _ _ => (rv_assign rfl)) ?_
   refine wg_done (by kernel_rfl) ?_
   refine qe_seq ?_
   refine wc_ret ?_
   obtain rfl := oi h75
   have hS81 : SH _ _ _ _ _ [] := SH.sublist hS80 (.cons _ (.cons _ (.cons _ .slnil)))
   exact qe_ret (vs := [_]) Tryz.results13 ⟨rfl, trivial⟩ ⟨K76, rfl, hS81⟩

theorem ok_impl_DocField (F : Nat) {w : World} {K : KMap} {a2 : Option Addr} {n3 c4 : Nat} {a6 : Option Addr} {n7 c8 : Nat} {p0_d : GDoc} {p1_name : Str} {r : Str} (hS : SH w K [] w K []) (hr1 : rng64 p0_d.Id) (hs5 : SliceAt tGField K a2 n3 c4 p0_d.Fields) (hs9 : SliceAt tGAttr K a6 n7 c8 p0_d.Nums) (hl10 : p1_name.length ≤ maxLen) (hm : M.impl_DocField F p0_d p1_name = some r) :
  Calls Tryz.prog 16 #[.agg #[.int .i64 p0_d.Id, .slice a2 n3 c4, .slice a6 n7 c8], sv p1_name] w fun e w' => ∃ (K' : KMap), e = .returned (sv r) ∧ SH w K [] w' K' [] ∧ r.length ≤ maxLen := by
 rw [M.impl_DocField] at hm
 refine calls_in Tryz.func16 rfl Tryz.ntmps16 rfl ?_
 refine sr ?_
 refine wl_box wn rfl rfl hS ?_
 intro g11 w12 hS13
 have hS14 : SH _ _ _ _ _ [obj g11 [.int .i64 p0_d.Id, .slice a2 n3 c4, .slice a6 n7 c8] 44] := hS13
 refine wl_val wn rfl (rv_assign (v := sv []) rfl) ?_
 refine nsr ?_
 refine wl_val wn rfl (rv_loadmS (ds := [.int .i64 p0_d.Id, .slice a2 n3 c4, .slice a6 n7 c8]) tf44 rfl (.head _) hS14 rfl rfl) ?_
 obtain ⟨r15, hx16, h17⟩ := ob hm
 refine wl_call wn rfl (rt_call (vs := [.agg #[.int .i64 p0_d.Id, .slice a2 n3 c4, .slice a6 n7 c8]]) co60 rfl) ((ok_impl_DocOk F) hS14.enter0 hr1 hs5 hs9 hx16) ?_
 rintro e21 w19 ⟨K18, rfl, hS20⟩
 refine ⟨_, rfl, ?_⟩
 have hS22 : SH _ _ _ _ _ [_] := SH.call0 hS14 hS20
 refine nq ?_
 refine wc_cond rfl (fun hb23 => ?_) (fun hb23 => ?_)
 ·have h24 := cond_t hb23 h17
  refine sr ?_
  refine wl_val wn rfl (rv_fieldAddr ff44_1 rfl) ?_
  refine wl_val wn rfl (rv_loadm1 tf41 rfl (.head _) hS22 rfl) ?_
  refine wl_val wn rfl (rv_len (t := tGField) Tryz.underlying41 rfl (SliceAt.mono hS20.le hs5)) ?_
  refine wl_val wn rfl (rv_move (v := .int .i64 0) rfl) ?_
  refine nq ?_
  obtain ⟨o25, h26, h27⟩ := ob h24
  refine wc_cutg (fun E' w' => ∃ (s28 : Unit) (K29 : KMap), o25 = .inl s28 ∧ E' = [] ∧ SH w K [] w' K29 [] ∧ KLe K18 K29) ?_ ?_
  ·refine wc_block ?_
   obtain ⟨r34, h35, h36⟩ := ob h26
   have hS42 : SH _ _ _ _ _ [] := SH.sublist hS22 (.cons _ .slnil)
   refine wc_for' (fun (i37 : Nat) (s33 : Unit) E' w' => ∃ (K38 : KMap), E' = [(1, sv p1_name), (10, .slice a2 n3 c4), (11, .int .i64 (p0_d.Fields.length : Int)), (12, .int .i64 ((i37 : Nat) : Int))] ∧ SH w K [] w' K38 [] ∧ KLe K18 K38) h35 ⟨K18, rfl, hS42, (KLe.refl _)⟩ ⟨rfl, rfl, rfl, rfl, trivial⟩ ?_ ?_
   ·rintro i37 s33 _ w40 r43 hi44 h45 hx46 ⟨K38, rfl, hS41, hl39⟩
    refine sr ?_
    refine wl_val wn rfl (rv_lss rfl rfl) ?_
    refine ns ?_
    refine wc_cond_t rfl (decide_eq_true (by omega)) (wc_skip (qe_seq (wc_seq ?_)))
    refine wc_block ?_
    refine sr ?_
    obtain ⟨x47, hx48, h49⟩ := ob h45
    refine wl_indexAddr (t := tGField) wn rfl Tryz.underlying41 tf109 rfl rfl (SliceAt.mono (hS20.le.trans hl39) hs5) hx48 ?_
    intro b50 o51 u52 hu53 ha54
    obtain ⟨rfl, hl55, hl56⟩ := hu53
    have ha57 : AtK _ b50 o51 [sv x47.Name, sv x47.Text] := ha54
    refine wl_val wn rfl (rv_loadS (cs := [sv x47.Name, sv x47.Text]) tf109 rfl hS41 ha57 rfl) ?_
    refine wl_alloc wn rfl tf109 hS41 ?_
    intro g58 w59 hS60
    have hS61 : SH _ _ _ _ _ [obj g58 [sv [], sv []] 109] := hS60
    refine wl_store (cs' := [sv x47.Name, sv x47.Text]) (v := .agg #[sv x47.Name, sv x47.Text]) wn tf109 rfl rfl rfl (by simp [Value.cells, Value.oneCell', sv]) hS61 rfl rfl ?_
    intro w62 hS63
    refine nr ?_
    refine wl_val wn rfl (rv_fieldAddr ff109_0 rfl) ?_
    refine wl_val wn rfl (rv_loadm1 tf9 rfl (.head _) hS63 rfl) ?_
    refine vm rfl rfl ?_
    refine wl_val wn rfl (rv_seql rfl rfl) ?_
    refine nq ?_
    refine wc_cond rfl (fun hb64 => ?_) (fun hb64 => ?_)
    ·have h65 := cond_t hb64 h49
     refine sr ?_
     refine wl_val wn rfl (rv_fieldAddr ff109_1 rfl) ?_
     refine wl_val wn rfl (rv_loadm1 tf9 rfl (.head _) hS63 rfl) ?_
     refine va rfl rfl ?_
     refine nq ?_
     refine wc_ret ?_
     refine qe_block_ret ?_
     refine qe_then_ret ?_
     refine qe_then_ret ?_
     obtain rfl := oi h65
     have e66 := hx46 _ rfl
     subst e66
     refine qe_block_ret ?_
     refine qe_then_ret ?_
     obtain rfl := oi h36
     refine qe_then_ret ?_
     obtain rfl := oi h27
     have hS67 : SH _ _ _ _ _ [] := SH.sublist hS63 (.cons _ .slnil)
     exact qe_ret (vs := [_]) Tryz.results16 ⟨rfl, trivial⟩ ⟨K38, rfl, hS67, hl56⟩
    ·have h65 := cond_f hb64 h49
     refine wc_skip ?_
     refine qe_block ?_
     refine qg ?_
     refine wl_val wn rfl (rv_add_to rfl rfl (w64_succ hi44 (SliceAt.max (SliceAt.mono hS20.le hs5)))) ?_
     refine vm rfl rfl ?_
     refine wl_nil ?_
     obtain rfl := oi h65
     have hS68 : SH _ _ _ _ _ [] := SH.sublist hS63 (.cons _ .slnil)
     exact qe_mid' ⟨_, rfl, K38, rfl, hS68, hl39⟩ ⟨rfl, rfl, rfl, rfl, trivial⟩
   ·rintro s33 _ w40 hr69 ⟨K38, rfl, hS41, hl39⟩
    subst hr69
    refine sr ?_
    refine wl_val wn rfl (rv_lss rfl rfl) ?_
    refine ns ?_
    refine wc_cond_f rfl (decide_eq_false (by omega)) ?_
    refine wc_exit ?_
    refine qe_then_exit ?_
    refine qe_then_exit ?_
    refine qe_block_eq ?_
    obtain rfl := oi h36
    exact qe_mid' ⟨_, K38, rfl, rfl, hS41, hl39⟩ trivial
  ·rintro _ w31 ⟨s28, K29, rfl, rfl, hS32, hl30⟩
   refine qr ?_
   refine wl_val wn rfl (rv_assign (v := sv []) rfl) ?_
   refine nq ?_
   refine wc_ret ?_
   obtain rfl := oi h27
   exact qe_ret (vs := [_]) Tryz.results16 ⟨rfl, trivial⟩ ⟨K29, rfl, hS32, (by decide : ([] : Str).length ≤ maxLen)⟩
 ·have h24 := cond_f hb23 h17
  refine wc_skip ?_
  refine qr ?_
  refine wl_val wn rfl (rv_assign (v := sv []) rfl) ?_
  refine nq ?_
  refine wc_ret ?_
  obtain rfl := oi h24
  have hS72 : SH _ _ _ _ _ [] := SH.sublist hS22 (.cons _ .slnil)
  exact qe_ret (vs := [_]) Tryz.results16 ⟨rfl, trivial⟩ ⟨K18, rfl, hS72, (by decide : ([] : Str).length ≤ maxLen)⟩

theorem ok_impl_Seg_doc (F : Nat) {w : World} {K : KMap} {g1 : Nat} {a2 : Option Addr} {n3 c4 : Nat} {a6 : Option Addr} {n7 c8 : Nat} {p0_s : GSeg} {p1_id : Int} {r : GDoc × Bool} (hS : SH w K (List.flatMap Item.gs [obj g1 [.slice a2 n3 c4, .slice a6 n7 c8] 30]) w K [obj g1 [.slice a2 n3 c4, .slice a6 n7 c8] 30]) (hs5 : SliceAt tGDoc K a2 n3 c4 p0_s.Docs) (hs9 : SliceAt tGEntry K a6 n7 c8 p0_s.Entries) (hr10 : rng64 p1_id) (hm : M.impl_Seg_doc F p0_s p1_id = some r) :
  Calls Tryz.prog 135 #[.pointer (some ⟨g1, 0, none⟩), .int .i64 p1_id] w fun e w' => ∃ (a_2 : Option Addr) (n_3 c_4 : Nat) (a_6 : Option Addr) (n_7 c_8 : Nat) (K' : KMap), e = .returned (.tuple #[.agg #[.int .i64 r.1.Id, .slice a_2 n_3 c_4, .slice a_6 n_7 c_8], .bool r.2]) ∧ SH w K (List.flatMap Item.gs [obj g1 [.slice a2 n3 c4, .slice a6 n7 c8] 30]) w' K' [obj g1 [.slice a2 n3 c4, .slice a6 n7 c8] 30] ∧ rng64 r.1.Id ∧ SliceAt tGField K' a_2 n_3 c_4 r.1.Fields ∧ SliceAt tGAttr K' a_6 n_7 c_8 r.1.Nums := by
 rw [M.impl_Seg_doc] at hm
 refine calls_in Tryz.func135 rfl Tryz.ntmps135 rfl ?_
 refine sr ?_
 refine wl_alloc wn rfl tf44 hS ?_
 intro g11 w12 hS13
 have hS14 : SH _ _ _ _ _ [obj g11 [.int .i64 0, .slice none 0 0, .slice none 0 0] 44, _] := hS13
 refine wl_val wn rfl (rv_assign (v := .bool false) rfl) ?_
 refine nsr ?_
 refine vm rfl rfl ?_
 refine wl_val wn rfl (rv_nilCheck rfl) ?_
 refine wl_val wn rfl (rv_fieldAddr ff30_0 rfl) ?_
 refine wl_val wn rfl (rv_loadm1 tf27 rfl (.tail _ (.head _)) hS14 rfl) ?_
 refine wl_val wn rfl (rv_len (t := tGDoc) Tryz.underlying27 rfl hs5) ?_
 refine wl_val wn rfl (rv_move (v := .int .i64 0) rfl) ?_
 refine nq ?_
 obtain ⟨o15, h16, h17⟩ := ob hm
 refine wc_cutg (fun E' w' => ∃ (s18 : GDoc) (a24 : Option Addr) (n25 c26 : Nat) (a28 : Option Addr) (n29 c30 : Nat) (K19 : KMap), o15 = .inl s18 ∧ E' = [(0, .pointer (some ⟨g1, 0, none⟩)), (4, .pointer (some ⟨g11, 0, none⟩))] ∧ SH w K (List.flatMap Item.gs [obj g1 [.slice a2 n3 c4, .slice a6 n7 c8] 30]) w' K19 [obj g1 [.slice a2 n3 c4, .slice a6 n7 c8] 30, obj g11 [.int .i64 s18.Id, .slice a24 n25 c26, .slice a28 n29 c30] 44] ∧ KLe K K19 ∧ rng64 s18.Id ∧ SliceAt tGField K19 a24 n25 c26 s18.Fields ∧ SliceAt tGAttr K19 a28 n29 c30 s18.Nums) ?_ ?_
 ·refine wc_block ?_
  obtain ⟨r33, h34, h35⟩ := ob h16
  have hS50 : SH _ _ _ _ _ [_, _] := SH.front (p := [_]) hS14
  refine wc_for' (fun (i36 : Nat) (s32 : GDoc) E' w' => ∃ (a42 : Option Addr) (n43 c44 : Nat) (a46 : Option Addr) (n47 c48 : Nat) (K37 : KMap), E' = [(0, .pointer (some ⟨g1, 0, none⟩)), (1, .int .i64 p1_id), (4, .pointer (some ⟨g11, 0, none⟩)), (11, .slice a2 n3 c4), (12, .int .i64 (p0_s.Docs.length : Int)), (13, .int .i64 ((i36 : Nat) : Int))] ∧ SH w K (List.flatMap Item.gs [obj g1 [.slice a2 n3 c4, .slice a6 n7 c8] 30]) w' K37 [obj g1 [.slice a2 n3 c4, .slice a6 n7 c8] 30, obj g11 [.int .i64 s32.Id, .slice a42 n43 c44, .slice a46 n47 c48] 44] ∧ KLe K K37 ∧ rng64 s32.Id ∧ SliceAt tGField K37 a42 n43 c44 s32.Fields ∧ SliceAt tGAttr K37 a46 n47 c48 s32.Nums) h34 ⟨none, 0, 0, none, 0, 0, K, rfl, hS50, (KLe.refl _), (by decide : rng64 0), (SliceAt.nil _ _), (SliceAt.nil _ _)⟩ ⟨rfl, rfl, rfl, rfl, rfl, rfl, trivial⟩ ?_ ?_
  ·rintro i36 s32 _ w39 r51 hi52 h53 hx54 ⟨a42, n43, c44, a46, n47, c48, K37, rfl, hS40, hl38, hr41, hs45, hs49⟩
   refine sr ?_
   refine wl_val wn rfl (rv_lss rfl rfl) ?_
   refine ns ?_
   refine wc_cond_t rfl (decide_eq_true (by omega)) (wc_skip (qe_seq (wc_seq ?_)))
   refine wc_block ?_
   refine sr ?_
   obtain ⟨x55, hx56, h57⟩ := ob h53
   refine wl_indexAddr (t := tGDoc) wn rfl Tryz.underlying27 tf44 rfl rfl (SliceAt.mono hl38 hs5) hx56 ?_
   intro b58 o59 u60 hu61 ha62
   obtain ⟨a64, n65, c66, a68, n69, c70, rfl, hr63, hs67, hs71⟩ := hu61
   have ha72 : AtK _ b58 o59 [.int .i64 x55.Id, .slice a64 n65 c66, .slice a68 n69 c70] := ha62
   refine wl_val wn rfl (rv_loadS (cs := [.int .i64 x55.Id, .slice a64 n65 c66, .slice a68 n69 c70]) tf44 rfl hS40 ha72 rfl) ?_
   refine wl_alloc wn rfl tf44 hS40 ?_
   intro g73 w74 hS75
   have hS76 : SH _ _ _ _ _ [obj g73 [.int .i64 0, .slice none 0 0, .slice none 0 0] 44, _, _] := hS75
   refine wl_store (cs' := [.int .i64 x55.Id, .slice a64 n65 c66, .slice a68 n69 c70]) (v := .agg #[.int .i64 x55.Id, .slice a64 n65 c66, .slice a68 n69 c70]) wn tf44 rfl rfl rfl (by simp [Value.cells, Value.oneCell']) hS76 rfl rfl ?_
   intro w77 hS78
   refine nr ?_
   refine wl_val wn rfl (rv_fieldAddr ff44_0 rfl) ?_
   refine wl_val wn rfl (rv_loadm1 tf3 rfl (.head _) hS78 rfl) ?_
   refine vm rfl rfl ?_
   refine wl_val wn rfl (rv_eql rfl rfl) ?_
   refine nq ?_
   refine wc_cond rfl (fun hb79 => ?_) (fun hb79 => ?_)
   ·have h80 := cond_t hb79 h57
    refine sr ?_
    refine wl_val wn rfl (rv_loadmS (ds := [.int .i64 x55.Id, .slice a64 n65 c66, .slice a68 n69 c70]) tf44 rfl (.head _) hS78 rfl rfl) ?_
    have hS81 : SH _ _ _ _ _ [_, _, _] := SH.front (p := [_, _]) hS78
    refine wl_store (cs' := [.int .i64 x55.Id, .slice a64 n65 c66, .slice a68 n69 c70]) (v := .agg #[.int .i64 x55.Id, .slice a64 n65 c66, .slice a68 n69 c70]) wn tf44 rfl rfl rfl (by simp [Value.cells, Value.oneCell']) hS81 rfl rfl ?_
    intro w82 hS83
    refine wl_val wn rfl (rv_assign (v := .bool true) rfl) ?_
    refine nq ?_
    refine wc_ret ?_
    refine qe_block_ret ?_
    refine qe_then_ret ?_
    refine qe_then_ret ?_
    obtain rfl := oi h80
    have e84 := hx54 _ rfl
    subst e84
    refine qe_block_ret ?_
    refine qe_then_ret ?_
    obtain rfl := oi h35
    refine qe_then_ret ?_
    obtain rfl := oi h17
    have hS85 : SH _ _ _ _ _ [_] := SH.sublist hS83 (.cons _ (.cons _ (.cons_cons _ .slnil)))
    exact qe_ret (vs := [_, _]) Tryz.results135 ⟨⟨_, _, rfl, run_loadVar_at tf44 (cs := [.int .i64 x55.Id, .slice a64 n65 c66, .slice a68 n69 c70]) (fun j c e => by rw [Nat.zero_add, hS83.mem_obj (.head _)]; exact e) (.inl ⟨rfl, rfl, rfl⟩)⟩, rfl, trivial⟩ ⟨a64, n65, c66, a68, n69, c70, K37, rfl, hS85, hr63, hs67, hs71⟩
   ·have h80 := cond_f hb79 h57
    refine wc_skip ?_
    refine qe_block ?_
    refine qg ?_
    refine wl_val wn rfl (rv_add_to rfl rfl (w64_succ hi52 (SliceAt.max hs5))) ?_
    refine vm rfl rfl ?_
    refine wl_nil ?_
    obtain rfl := oi h80
    have hS86 : SH _ _ _ _ _ [_, _] := SH.sublist hS78 (.cons _ (.cons_cons _ (.cons_cons _ .slnil)))
    exact qe_mid' ⟨_, rfl, a42, n43, c44, a46, n47, c48, K37, rfl, hS86, hl38, hr41, hs45, hs49⟩ ⟨rfl, rfl, rfl, rfl, rfl, rfl, trivial⟩
  ·rintro s32 _ w39 hr87 ⟨a42, n43, c44, a46, n47, c48, K37, rfl, hS40, hl38, hr41, hs45, hs49⟩
   subst hr87
   refine sr ?_
   refine wl_val wn rfl (rv_lss rfl rfl) ?_
   refine ns ?_
   refine wc_cond_f rfl (decide_eq_false (by omega)) ?_
   refine wc_exit ?_
   refine qe_then_exit ?_
   refine qe_then_exit ?_
   refine qe_block_eq ?_
   obtain rfl := oi h35
   exact qe_mid' ⟨_, a42, n43, c44, a46, n47, c48, K37, rfl, rfl, hS40, hl38, hr41, hs45, hs49⟩ ⟨rfl, rfl, trivial⟩
 ·rintro _ w21 ⟨s18, a24, n25, c26, a28, n29, c30, K19, rfl, rfl, hS22, hl20, hr23, hs27, hs31⟩
  refine qr ?_
  refine wl_val wn rfl (rv_build (cs := #[.int .i64 0, .slice none 0 0, .slice none 0 0]) sp44 tf44 rfl (by kernel_rfl)) ?_
  have hS89 : SH _ _ _ _ _ [_, _] := SH.front (p := [_]) hS22
  refine wl_store (cs' := [.int .i64 0, .slice none 0 0, .slice none 0 0]) (v := .agg #[.int .i64 0, .slice none 0 0, .slice none 0 0]) wn tf44 rfl rfl rfl (by simp [Value.cells, Value.oneCell']) hS89 rfl rfl ?_
  intro w90 hS91
  refine wl_val wn rfl (rv_assign (v := .bool false) rfl) ?_
  refine nq ?_
  refine wc_ret ?_
  obtain rfl := oi h17
  have hS92 : SH _ _ _ _ _ [_] := SH.sublist hS91 (.cons _ (.cons_cons _ .slnil))
  exact qe_ret (vs := [_, _]) Tryz.results135 ⟨⟨_, _, rfl, run_loadVar_at tf44 (cs := [.int .i64 0, .slice none 0 0, .slice none 0 0]) (fun j c e => by rw [Nat.zero_add, hS91.mem_obj (.head _)]; exact e) (.inl ⟨rfl, rfl, rfl⟩)⟩, rfl, trivial⟩ ⟨none, 0, 0, none, 0, 0, K19, rfl, hS92, (by decide : rng64 0), (SliceAt.nil _ _), (SliceAt.nil _ _)⟩
end Go.Proofs.YtdcmmhjhffcnhaaGreat
