/-
 Walks of the functions. Printed by gen.py.
-/
import Derived.Test.YtdcmmhjhffcnhaaGreatWalkA4
set_option linter.unusedVariables false
set_option maxRecDepth 100000
namespace Go.Proofs.YtdcmmhjhffcnhaaGreat
open Go Go.Fk Go.RowKit

theorem ok_impl_DocField (F : Nat) {w : World} {K : KMap} {a2 : Option Addr} {n3 c4 : Nat} {a6 : Option Addr} {n7 c8 : Nat} {p0_d : GDoc} {p1_name : Str} {r : Str} (hS : SH w K [] w K []) (hr1 : rng64 p0_d.Id) (hs5 : SliceAt tGField K a2 n3 c4 p0_d.Fields) (hs9 : SliceAt tGAttr K a6 n7 c8 p0_d.Nums) (hl10 : p1_name.length ≤ maxLen) (hm : M.impl_DocField F p0_d p1_name = some r) :
  Calls Tryz.prog 16 #[.agg #[.int .i64 p0_d.Id, .slice a2 n3 c4, .slice a6 n7 c8], sv p1_name] w fun e w' => ∃ (K' : KMap), e = .returned (sv r) ∧ SH w K [] w' K' [] ∧ r.length ≤ maxLen := by
 rw [M.impl_DocField] at hm
 refine calls_in Tryz.func16 rfl Tryz.ntmps16 rfl ?_
 refine sr ?_
 refine wl_box wn rfl rfl hS ?_
 intro g11 w12 hS13
 have hS14 : SH _ _ _ _ _ [obj g11 [.int .i64 p0_d.Id, .slice a2 n3 c4, .slice a6 n7 c8] 44] := hS13
 refine wl_val wn rfl (rv_assign (v := sv []) rfl) ?_
 refine nsr ?_
 refine wl_val wn rfl (rv_loadmS (ds := [.int .i64 p0_d.Id, .slice a2 n3 c4, .slice a6 n7 c8]) tf44 rfl (.head _) hS14 rfl rfl) ?_
 obtain ⟨r15, hx16, h17⟩ := ob hm
 refine wl_call wn rfl (rt_call (vs := [.agg #[.int .i64 p0_d.Id, .slice a2 n3 c4, .slice a6 n7 c8]]) co60 rfl) ((ok_impl_DocOk F) hS14.enter0 hr1 hs5 hs9 hx16) ?_
 rintro e21 w19 ⟨K18, rfl, hS20⟩
 refine ⟨_, rfl, ?_⟩
 have hS22 : SH _ _ _ _ _ [_] := SH.call0 hS14 hS20
 refine nq ?_
 refine wc_cond rfl (fun hb23 => ?_) (fun hb23 => ?_)
 ·have h24 := cond_t hb23 h17
  refine sr ?_
  refine wl_val wn rfl (rv_fieldAddr ff44_1 rfl) ?_
  refine wl_val wn rfl (rv_loadm1 tf41 rfl (.head _) hS22 rfl) ?_
  refine wl_val wn rfl (rv_len (t := tGField) Tryz.underlying41 rfl (SliceAt.mono hS20.le hs5)) ?_
  refine wl_val wn rfl (rv_move (v := .int .i64 0) rfl) ?_
  refine nq ?_
  obtain ⟨o25, h26, h27⟩ := ob h24
  refine wc_cutg (fun E' w' => ∃ (s28 : Unit) (K29 : KMap), o25 = .inl s28 ∧ E' = [] ∧ SH w K [] w' K29 [] ∧ KLe K18 K29) ?_ ?_
  ·refine wc_block ?_
   obtain ⟨r34, h35, h36⟩ := ob h26
   have hS42 : SH _ _ _ _ _ [] := SH.sublist hS22 (.cons _ .slnil)
   refine wc_for' (fun (i37 : Nat) (s33 : Unit) E' w' => ∃ (K38 : KMap), E' = [(1, sv p1_name), (10, .slice a2 n3 c4), (11, .int .i64 (p0_d.Fields.length : Int)), (12, .int .i64 ((i37 : Nat) : Int))] ∧ SH w K [] w' K38 [] ∧ KLe K18 K38) h35 ⟨K18, rfl, hS42, (KLe.refl _)⟩ ⟨rfl, rfl, rfl, rfl, trivial⟩ ?_ ?_
   ·rintro i37 s33 _ w40 r43 hi44 h45 hx46 ⟨K38, rfl, hS41, hl39⟩
    refine sr ?_
    refine wl_val wn rfl (rv_lss rfl rfl) ?_
    refine ns ?_
    refine wc_cond_t rfl (decide_eq_true (by omega)) (wc_skip (qe_seq (wc_seq ?_)))
    refine wc_block ?_
    refine sr ?_
    obtain ⟨x47, hx48, h49⟩ := ob h45
    refine wl_indexAddr (t := tGField) wn rfl Tryz.underlying41 tf109 rfl rfl (SliceAt.mono (hS20.le.trans hl39) hs5) hx48 ?_
    intro b50 o51 u52 hu53 ha54
    obtain ⟨rfl, hl55, hl56⟩ := hu53
    have ha57 : AtK _ b50 o51 [sv x47.Name, sv x47.Text] := ha54
    refine wl_val wn rfl (rv_loadS (cs := [sv x47.Name, sv x47.Text]) tf109 rfl hS41 ha57 rfl) ?_
    refine wl_alloc wn rfl tf109 hS41 ?_
    intro g58 w59 hS60
    have hS61 : SH _ _ _ _ _ [obj g58 [sv [], sv []] 109] := hS60
    refine wl_store (cs' := [sv x47.Name, sv x47.Text]) (v := .agg #[sv x47.Name, sv x47.Text]) wn tf109 rfl rfl rfl (by simp [Value.cells, Value.oneCell', sv]) hS61 rfl rfl ?_
    intro w62 hS63
    refine nr ?_
    refine wl_val wn rfl (rv_fieldAddr ff109_0 rfl) ?_
    refine wl_val wn rfl (rv_loadm1 tf9 rfl (.head _) hS63 rfl) ?_
    refine vm rfl rfl ?_
    refine wl_val wn rfl (rv_seql rfl rfl) ?_
    refine nq ?_
    refine wc_cond rfl (fun hb64 => ?_) (fun hb64 => ?_)
    ·have h65 := cond_t hb64 h49
     refine sr ?_
     refine wl_val wn rfl (rv_fieldAddr ff109_1 rfl) ?_
     refine wl_val wn rfl (rv_loadm1 tf9 rfl (.head _) hS63 rfl) ?_
     refine va rfl rfl ?_
     refine nq ?_
     refine wc_ret ?_
     refine qe_block_ret ?_
     refine qe_then_ret ?_
     refine qe_then_ret ?_
     obtain rfl := oi h65
     have e66 := hx46 _ rfl
     subst e66
     refine qe_block_ret ?_
     refine qe_then_ret ?_
     obtain rfl := oi h36
     refine qe_then_ret ?_
     obtain rfl := oi h27
     have hS67 : SH _ _ _ _ _ [] := SH.sublist hS63 (.cons _ .slnil)
     exact qe_ret (vs := [_]) Tryz.results16 ⟨rfl, trivial⟩ ⟨K38, rfl, hS67, hl56⟩
    ·have h65 := cond_f hb64 h49
     refine wc_skip ?_
     refine qe_block ?_
     refine qg ?_
     refine wl_val wn rfl (rv_add_to rfl rfl (w64_succ hi44 (SliceAt.max (SliceAt.mono hS20.le hs5)))) ?_
     refine vm rfl rfl ?_
     refine wl_nil ?_
     obtain rfl := oi h65
     have hS68 : SH _ _ _ _ _ [] := SH.sublist hS63 (.cons _ .slnil)
     exact qe_mid' ⟨_, rfl, K38, rfl, hS68, hl39⟩ ⟨rfl, rfl, rfl, rfl, trivial⟩
   ·rintro s33 _ w40 hr69 ⟨K38, rfl, hS41, hl39⟩
    subst hr69
    refine sr ?_
    refine wl_val wn rfl (rv_lss rfl rfl) ?_
    refine ns ?_
    refine wc_cond_f rfl (decide_eq_false (by omega)) ?_
    refine wc_exit ?_
    refine qe_then_exit ?_
    refine qe_then_exit ?_
    refine qe_block_eq ?_
    obtain rfl := oi h36
    exact qe_mid' ⟨_, K38, rfl, rfl, hS41, hl39⟩ trivial
  ·rintro _ w31 ⟨s28, K29, rfl, rfl, hS32, hl30⟩
   refine qr ?_
   refine wl_val wn rfl (rv_assign (v := sv []) rfl) ?_
   refine nq ?_
   refine wc_ret ?_
   obtain rfl := oi h27
   exact qe_ret (vs := [_]) Tryz.results16 ⟨rfl, trivial⟩ ⟨K29, rfl, hS32, (by decide : ([] : Str).length ≤ maxLen)⟩
 ·have h24 := cond_f hb23 h17
  refine wc_skip ?_
  refine qr ?_
  refine wl_val wn rfl (rv_assign (v := sv []) rfl) ?_
  refine nq ?_
  refine wc_ret ?_
  obtain rfl := oi h24
  have hS72 : SH _ _ _ _ _ [] := SH.sublist hS22 (.cons _ .slnil)
  exact qe_ret (vs := [_]) Tryz.results16 ⟨rfl, trivial⟩ ⟨K18, rfl, hS72, (by decide : ([] : Str).length ≤ maxLen)⟩

set_option maxHeartbeats 2000000 in
theorem ok_laws_FnSegPosts (F : Nat) {w : World} {K : KMap} {a1 : Option Addr} {n2 c3 : Nat} {p0_code : List UInt8} {r : Bool} (hS : SH w K [] w K []) (hs4 : SliceAt tU8 K a1 n2 c3 p0_code) (hm : M.laws_FnSegPosts F p0_code = some r) :
  Calls Tryz.prog 3 #[.slice a1 n2 c3] w fun e w' => ∃ (K' : KMap), e = .returned (.bool r) ∧ SH w K [] w' K' [] := by
 rw [M.laws_FnSegPosts] at hm
 refine calls_in Tryz.func3 rfl Tryz.ntmps3 rfl ?_
 refine sr ?_
 refine wl_val wn rfl (rv_assign (v := .bool false) rfl) ?_
 refine nsr ?_
 refine vm rfl rfl ?_
 refine wl_val wn rfl (rv_len (t := tU8) Tryz.underlying22 rfl hs4) ?_
 refine wl_val wn rfl (rv_gtr rfl rfl) ?_
 refine nq ?_
 refine wc_cond rfl (fun hb5 => ?_) (fun hb5 => ?_)
 ·have h6 := cond_t hb5 hm
  refine sr ?_
  refine wl_val wn rfl (rv_assign (v := .bool true) rfl) ?_
  refine nq ?_
  refine rr ?_
  obtain rfl := oi h6
  exact qe_ret (vs := [_]) Tryz.results3 ⟨rfl, trivial⟩ ⟨K, rfl, hS⟩
 ·have h6 := cond_f hb5 hm
  refine wc_skip ?_
  refine qr ?_
  refine vm rfl rfl ?_
  obtain ⟨r7, hx8, h9⟩ := ob h6
  refine wl_call wn rfl (rt_call (vs := [.slice a1 n2 c3]) co9 rfl) ((ok_spec_DrawSegPosts F) hS.enter0 hs4 hx8) ?_
  rintro e31 w11 ⟨a13, n14, c15, a17, n18, c19, a21, n22, c23, a25, n26, c27, K10, rfl, hS12, hs16, hs20, hs24, hs28, hl29, hl30⟩
  refine ⟨_, rfl, ?_⟩
  have hS32 : SH _ _ _ _ _ [_, _, _] := SH.call0 hS hS12
  refine vm rfl rfl ?_
  refine wl_val wn rfl (rv_extract rfl rfl) ?_
  refine wl_val wn rfl (rv_extract rfl rfl) ?_
  refine wl_val wn rfl (rv_extract rfl rfl) ?_
  refine wl_val wn rfl (rv_extract rfl rfl) ?_
  refine wl_alloc wn rfl tf26 hS32 ?_
  intro g33 w34 hS35
  have hS36 : SH _ _ _ _ _ [obj g33 [.slice none 0 0, .slice none 0 0] 26, _, _, _] := hS35
  refine wl_alloc wn rfl tf30 hS36 ?_
  intro g37 w38 hS39
  have hS40 : SH _ _ _ _ _ [obj g37 [.slice none 0 0, .slice none 0 0] 30, _, _, _, _] := hS39
  have hS41 : SH _ _ _ _ _ [_, _, _, _, _] := SH.front (p := [_]) hS40
  refine wl_store (cs' := [.slice a13 n14 c15, .slice a17 n18 c19]) (v := .agg #[.slice a13 n14 c15, .slice a17 n18 c19]) wn tf26 rfl rfl rfl (by simp [Value.cells, Value.oneCell']) hS41 rfl rfl ?_
  intro w42 hS43
  have hS44 : SH _ _ _ _ _ [_, _, _, _, _] := SH.front (p := [_]) hS43
  refine wl_store (cs' := [.slice a21 n22 c23, .slice a25 n26 c27]) (v := .agg #[.slice a21 n22 c23, .slice a25 n26 c27]) wn tf30 rfl rfl rfl (by simp [Value.cells, Value.oneCell']) hS44 rfl rfl ?_
  intro w45 hS46
  refine va rfl rfl ?_
  refine va rfl rfl ?_
  refine nr ?_
  refine wl_val wn rfl (rv_loadmS (ds := [.slice a13 n14 c15, .slice a17 n18 c19]) tf26 rfl (.tail _ (.head _)) hS46 rfl rfl) ?_
  refine wl_val wn rfl (rv_loadmS (ds := [.slice a21 n22 c23, .slice a25 n26 c27]) tf30 rfl (.head _) hS46 rfl rfl) ?_
  refine vm rfl rfl ?_
  refine vm rfl rfl ?_
  obtain ⟨r47, hx48, h49⟩ := ob h9
  refine wl_call wn rfl (rt_call (vs := [.agg #[.slice a13 n14 c15, .slice a17 n18 c19], .agg #[.slice a21 n22 c23, .slice a25 n26 c27], sv r7.2.2.1, sv r7.2.2.2]) co10 rfl) ((ok_impl_SegPosts F) hS46.enter0 hs16 hs20 hs24 hs28 hl29 hl30 hx48) ?_
  rintro e57 w51 ⟨a53, n54, c55, K50, rfl, hS52, hs56⟩
  refine ⟨_, rfl, ?_⟩
  have hS58 : SH _ _ _ _ _ [_, _, _, _, _, _] := SH.call0 hS46 hS52
  refine va rfl rfl ?_
  refine ns ?_
  refine wc_seq ?_
  obtain ⟨o59, h60, h61⟩ := ob h49
  refine wc_cutg (fun E' w' => ∃ (K62 : KMap), E' = [(3, .pointer (some ⟨g33, 0, none⟩)), (4, .pointer (some ⟨g37, 0, none⟩)), (5, sv r7.2.2.1), (6, sv r7.2.2.2), (7, .slice a53 n54 c55), (50, .bool o59)] ∧ SH w K [] w' K62 [obj g33 [.slice a13 n14 c15, .slice a17 n18 c19] 26, obj g37 [.slice a21 n22 c23, .slice a25 n26 c27] 30] ∧ KLe K50 K62) ?_ ?_
  ·refine wc_held (fun w' => Holds K50 w' ∧ HasObj g33 [.slice a13 n14 c15, .slice a17 n18 c19] w' ∧ HasObj g37 [.slice a21 n22 c23, .slice a25 n26 c27] w') (fun w' => True) 23 [] mixed ?_
   have hS67 := SH.drew hS58
   refine wg_val (i := 0) (listed' := #[true, false, false, false, false, false, false, false, false, false, false, false, false, false, false, false, false, false, false, false, false, false, false]) (fun _ => True) rfl (by kernel_rfl) (pk_then (pk_then (pk_then pk_body))) (by kernel_rfl) rfl (by kernel_rfl) (by kernel_rfl) rfl (.inl fun _ _ => trivial) ⟨⟨hS67.hasK (KLe.refl _), hS67.hasObj (.tail _ (.tail _ (.head _))), hS67.hasObj (.tail _ (.head _))⟩, (fun _ => trivial), by decide⟩ wn rfl (fun _ _ => (rv_move rfl)) ?_
   refine wg_val (i := 1) (listed' := #[true, true, false, false, false, false, false, false, false, false, false, false, false, false, false, false, false, false, false, false, false, false, false]) (HasObj g33 [.slice a13 n14 c15, .slice a17 n18 c19]) rfl (by kernel_rfl) (pk_then (pk_then (pk_then pk_body))) (by kernel_rfl) rfl (by kernel_rfl) (by kernel_rfl) rfl (.inl fun _ h => h.2.1) ⟨⟨hS67.hasK (KLe.refl _), hS67.hasObj (.tail _ (.tail _ (.head _))), hS67.hasObj (.tail _ (.head _))⟩, (fun _ => trivial), by decide⟩ wn rfl (fun _ h => rh_loadmS (ds := [.slice a13 n14 c15, .slice a17 n18 c19]) tf26 rfl rfl rfl h) ?_
   refine wg_val (i := 2) (listed' := #[true, true, true, false, false, false, false, false, false, false, false, false, false, false, false, false, false, false, false, false, false, false, false]) (HasObj g37 [.slice a21 n22 c23, .slice a25 n26 c27]) rfl (by kernel_rfl) (pk_then (pk_then (pk_then pk_body))) (by kernel_rfl) rfl (by kernel_rfl) (by kernel_rfl) rfl (.inl fun _ h => h.2.2) ⟨⟨hS67.hasK (KLe.refl _), hS67.hasObj (.tail _ (.tail _ (.head _))), hS67.hasObj (.tail _ (.head _))⟩, (fun _ => trivial), by decide⟩ wn rfl (fun _ h => rh_loadmS (ds := [.slice a21 n22 c23, .slice a25 n26 c27]) tf30 rfl rfl rfl h) ?_
   refine wg_val (i := 3) (listed' := #[true, true, true, true, false, false, false, false, false, false, false, false, false, false, false, false, false, false, false, false, false, false, false]) (fun _ => True) rfl (by kernel_rfl) (pk_then (pk_then (pk_then pk_body))) (by kernel_rfl) rfl (by kernel_rfl) (by kernel_rfl) rfl (.inl fun _ _ => trivial) ⟨⟨hS67.hasK (KLe.refl _), hS67.hasObj (.tail _ (.tail _ (.head _))), hS67.hasObj (.tail _ (.head _))⟩, (fun _ => trivial), by decide⟩ wn rfl (fun _ _ => (rv_move rfl)) ?_
   refine wg_val (i := 4) (listed' := #[true, true, true, true, true, false, false, false, false, false, false, false, false, false, false, false, false, false, false, false, false, false, false]) (fun _ => True) rfl (by kernel_rfl) (pk_then (pk_then (pk_then pk_body))) (by kernel_rfl) rfl (by kernel_rfl) (by kernel_rfl) rfl (.inl fun _ _ => trivial) ⟨⟨hS67.hasK (KLe.refl _), hS67.hasObj (.tail _ (.tail _ (.head _))), hS67.hasObj (.tail _ (.head _))⟩, (fun _ => trivial), by decide⟩ wn rfl (fun _ _ => (rv_move rfl)) ?_
   refine wg_one (i := 5) (by kernel_rfl) rfl ?_
   obtain ⟨r68, hx69, h70⟩ := ob h60
   refine wl_call wn rfl (rt_call (vs := [.agg #[.slice a13 n14 c15, .slice a17 n18 c19], .agg #[.slice a21 n22 c23, .slice a25 n26 c27], sv r7.2.2.1, sv r7.2.2.2]) co12 rfl) ((ok_spec_SegPosts F) hS67.enter0 (SliceAt.mono hS52.le hs16) (SliceAt.mono hS52.le hs20) (SliceAt.mono hS52.le hs24) (SliceAt.mono hS52.le hs28) hl29 hl30 hx69) ?_
   rintro e78 w72 ⟨a74, n75, c76, K71, rfl, hS73, hs77⟩
   refine ⟨_, rfl, ?_⟩
   have hS79 : SH _ _ _ _ _ [_, _, _, _, _, _, _] := SH.call0 hS67 hS73
   refine wl_nil (qe_held (listed' := #[true, true, true, true, true, true, false, false, false, false, false, false, false, false, false, false, false, false, false, false, false, false, false]) rfl ⟨⟨hS79.hasK hS73.le, hS79.hasObj (.tail _ (.tail _ (.tail _ (.head _)))), hS79.hasObj (.tail _ (.tail _ (.head _)))⟩, (fun _ => trivial), by decide⟩ ?_)
   refine wg_one (i := 6) (by kernel_rfl) rfl ?_
   obtain ⟨r80, hx81, h82⟩ := ob h70
   refine wl_call wn rfl (rt_call (vs := [.slice a53 n54 c55, .slice a74 n75 c76]) co11 rfl) ((ok_laws_foPosts F) hS79.enter0 (SliceAt.mono hS73.le hs56) hs77 hx81) ?_
   rintro e86 w84 ⟨K83, rfl, hS85⟩
   refine ⟨_, rfl, ?_⟩
   have hS87 : SH _ _ _ _ _ [_, _, _, _, _, _, _] := SH.call0 hS79 hS85
   refine wl_nil (qe_held (listed' := #[true, true, true, true, true, true, true, false, false, false, false, false, false, false, false, false, false, false, false, false, false, false, false]) rfl ⟨⟨hS87.hasK (hS73.le.trans hS85.le), hS87.hasObj (.tail _ (.tail _ (.tail _ (.head _)))), hS87.hasObj (.tail _ (.tail _ (.head _)))⟩, (fun _ => trivial), by decide⟩ ?_)
   refine wg_val (i := 7) (listed' := #[true, true, true, true, true, true, true, true, false, false, false, false, false, false, false, false, false, false, false, false, false, false, false]) (fun _ => True) rfl (by kernel_rfl) (pk_then (pk_then (pk_then pk_body))) (by kernel_rfl) rfl (by kernel_rfl) (by kernel_rfl) rfl (.inl fun _ _ => trivial) ⟨⟨hS87.hasK (hS73.le.trans hS85.le), hS87.hasObj (.tail _ (.tail _ (.tail _ (.head _)))), hS87.hasObj (.tail _ (.tail _ (.head _)))⟩, (fun _ => trivial), by decide⟩ wn rfl (fun _ _ => (rv_not rfl)) ?_
   refine wg_val (i := 8) (listed' := #[true, true, true, true, true, true, true, true, true, false, false, false, false, false, false, false, false, false, false, false, false, false, false]) (fun _ => True) rfl (by kernel_rfl) (pk_then (pk_then (pk_then pk_body))) (by kernel_rfl) rfl (by kernel_rfl) (by kernel_rfl) rfl (.inl fun _ _ => trivial) ⟨⟨hS87.hasK (hS73.le.trans hS85.le), hS87.hasObj (.tail _ (.tail _ (.tail _ (.head _)))), hS87.hasObj (.tail _ (.tail _ (.head _)))⟩, (fun _ => trivial), by decide⟩ wn rfl (fun _ _ => (rv_move rfl)) ?_
   rcases bool_tf ((!r80)) with hb88 | hb88
   ·have h89 := cond_t hb88 h82
    refine wg_un (i := 9) (listed' := #[true, true, true, true, true, true, true, true, true, true, false, false, false, false, false, false, false, false, false, false, false, false, false]) rfl (by kernel_rfl) (pk_then (pk_then (pk_then pk_body))) (by kernel_rfl) rfl (by kernel_rfl) (by kernel_rfl) rfl ⟨⟨hS87.hasK (hS73.le.trans hS85.le), hS87.hasObj (.tail _ (.tail _ (.tail _ (.head _)))), hS87.hasObj (.tail _ (.tail _ (.head _)))⟩, (fun _ => trivial), by decide⟩ (ug rfl rfl hb88) rfl ?_
    refine wg_un (i := 10) (listed' := #[true, true, true, true, true, true, true, true, true, true, true, false, false, false, false, false, false, false, false, false, false, false, false]) rfl (by kernel_rfl) (pk_then (pk_then (pk_then pk_body))) (by kernel_rfl) rfl (by kernel_rfl) (by kernel_rfl) rfl ⟨⟨hS87.hasK (hS73.le.trans hS85.le), hS87.hasObj (.tail _ (.tail _ (.tail _ (.head _)))), hS87.hasObj (.tail _ (.tail _ (.head _)))⟩, (fun _ => trivial), by decide⟩ (ug rfl rfl hb88) rfl ?_
    refine wg_un (i := 12) (listed' := #[true, true, true, true, true, true, true, true, true, true, true, false, true, false, false, false, false, false, false, false, false, false, false]) rfl (by kernel_rfl) (pk_then (pk_then (pk_then pk_body))) (by kernel_rfl) rfl (by kernel_rfl) (by kernel_rfl) rfl ⟨⟨hS87.hasK (hS73.le.trans hS85.le), hS87.hasObj (.tail _ (.tail _ (.tail _ (.head _)))), hS87.hasObj (.tail _ (.tail _ (.head _)))⟩, (fun _ => trivial), by decide⟩ (ug rfl rfl hb88) rfl ?_
    refine wg_un (i := 13) (listed' := #[true, true, true, true, true, true, true, true, true, true, true, false, true, true, false, false, false, false, false, false, false, false, false]) rfl (by kernel_rfl) (pk_then (pk_then (pk_then pk_body))) (by kernel_rfl) rfl (by kernel_rfl) (by kernel_rfl) rfl ⟨⟨hS87.hasK (hS73.le.trans hS85.le), hS87.hasObj (.tail _ (.tail _ (.tail _ (.head _)))), hS87.hasObj (.tail _ (.tail _ (.head _)))⟩, (fun _ => trivial), by decide⟩ (ug rfl rfl hb88) rfl ?_
    refine wg_one (i := 11) (by kernel_rfl) rfl ?_
    refine wl_un (ug rfl rfl hb88) rfl ?_
    refine wl_nil (qe_held (listed' := #[true, true, true, true, true, true, true, true, true, true, true, true, true, true, false, false, false, false, false, false, false, false, false]) rfl ⟨⟨hS87.hasK (hS73.le.trans hS85.le), hS87.hasObj (.tail _ (.tail _ (.tail _ (.head _)))), hS87.hasObj (.tail _ (.tail _ (.head _)))⟩, (fun _ => trivial), by decide⟩ ?_)
    refine wg_one (i := 14) (by kernel_rfl) rfl ?_
    refine wl_un (ug rfl rfl hb88) rfl ?_
    refine wl_nil (qe_held (listed' := #[true, true, true, true, true, true, true, true, true, true, true, true, true, true, true, false, false, false, false, false, false, false, false]) rfl ⟨⟨hS87.hasK (hS73.le.trans hS85.le), hS87.hasObj (.tail _ (.tail _ (.tail _ (.head _)))), hS87.hasObj (.tail _ (.tail _ (.head _)))⟩, (fun _ => trivial), by decide⟩ ?_)
    refine wg_un (i := 15) (listed' := #[true, true, true, true, true, true, true, true, true, true, true, true, true, true, true, true, false, false, false, false, false, false, false]) rfl (by kernel_rfl) (pk_then (pk_then (pk_then pk_body))) (by kernel_rfl) rfl (by kernel_rfl) (by kernel_rfl) rfl ⟨⟨hS87.hasK (hS73.le.trans hS85.le), hS87.hasObj (.tail _ (.tail _ (.tail _ (.head _)))), hS87.hasObj (.tail _ (.tail _ (.head _)))⟩, (fun _ => trivial), by decide⟩ (ug rfl rfl hb88) rfl ?_
    refine wg_val (i := 16) (listed' := #[true, true, true, true, true, true, true, true, true, true, true, true, true, true, true, true, true, false, false, false, false, false, false]) (fun _ => True) rfl (by kernel_rfl) (pk_then (pk_then (pk_then pk_body))) (by kernel_rfl) rfl (by kernel_rfl) (by kernel_rfl) rfl (.inl fun _ _ => trivial) ⟨⟨hS87.hasK (hS73.le.trans hS85.le), hS87.hasObj (.tail _ (.tail _ (.tail _ (.head _)))), hS87.hasObj (.tail _ (.tail _ (.head _)))⟩, (fun _ => trivial), by decide⟩ wn rfl (fun _ _ => (rv_pick_t (v := .bool true) rfl hb88 rfl)) ?_
    refine wg_val (i := 17) (listed' := #[true, true, true, true, true, true, true, true, true, true, true, true, true, true, true, true, true, true, false, false, false, false, false]) (fun _ => True) rfl (by kernel_rfl) (pk_then (pk_then (pk_then pk_body))) (by kernel_rfl) rfl (by kernel_rfl) (by kernel_rfl) rfl (.inl fun _ _ => trivial) ⟨⟨hS87.hasK (hS73.le.trans hS85.le), hS87.hasObj (.tail _ (.tail _ (.tail _ (.head _)))), hS87.hasObj (.tail _ (.tail _ (.head _)))⟩, (fun _ => trivial), by decide⟩ wn rfl (fun _ _ => (rv_move rfl)) ?_
    refine wg_un (i := 18) (listed' := #[true, true, true, true, true, true, true, true, true, true, true, true, true, true, true, true, true, true, true, false, false, false, false]) rfl (by kernel_rfl) (pk_then (pk_then (pk_then pk_body))) (by kernel_rfl) rfl (by kernel_rfl) (by kernel_rfl) rfl ⟨⟨hS87.hasK (hS73.le.trans hS85.le), hS87.hasObj (.tail _ (.tail _ (.tail _ (.head _)))), hS87.hasObj (.tail _ (.tail _ (.head _)))⟩, (fun _ => trivial), by decide⟩ (ug rfl rfl rfl) rfl ?_
    refine wg_un (i := 19) (listed' := #[true, true, true, true, true, true, true, true, true, true, true, true, true, true, true, true, true, true, true, true, false, false, false]) rfl (by kernel_rfl) (pk_then (pk_then (pk_then pk_body))) (by kernel_rfl) rfl (by kernel_rfl) (by kernel_rfl) rfl ⟨⟨hS87.hasK (hS73.le.trans hS85.le), hS87.hasObj (.tail _ (.tail _ (.tail _ (.head _)))), hS87.hasObj (.tail _ (.tail _ (.head _)))⟩, (fun _ => trivial), by decide⟩ (ug rfl rfl rfl) rfl ?_
    refine wg_one (i := 20) (by kernel_rfl) rfl ?_
    refine wl_un (ug rfl rfl rfl) rfl ?_
    refine wl_nil (qe_held (listed' := #[true, true, true, true, true, true, true, true, true, true, true, true, true, true, true, true, true, true, true, true, true, false, false]) rfl ⟨⟨hS87.hasK (hS73.le.trans hS85.le), hS87.hasObj (.tail _ (.tail _ (.tail _ (.head _)))), hS87.hasObj (.tail _ (.tail _ (.head _)))⟩, (fun _ => trivial), by decide⟩ ?_)
    refine wg_un (i := 21) (listed' := #[true, true, true, true, true, true, true, true, true, true, true, true, true, true, true, true, true, true, true, true, true, true, false]) rfl (by kernel_rfl) (pk_then (pk_then (pk_then pk_body))) (by kernel_rfl) rfl (by kernel_rfl) (by kernel_rfl) rfl ⟨⟨hS87.hasK (hS73.le.trans hS85.le), hS87.hasObj (.tail _ (.tail _ (.tail _ (.head _)))), hS87.hasObj (.tail _ (.tail _ (.head _)))⟩, (fun _ => trivial), by decide⟩ (ug rfl rfl rfl) rfl ?_
    refine wg_val (i := 22) (listed' := #[true, true, true, true, true, true, true, true, true, true, true, true, true, true, true, true, true, true, true, true, true, true, true]) (fun _ => True) rfl (by kernel_rfl) (pk_then (pk_then (pk_then pk_body))) (by kernel_rfl) rfl (by kernel_rfl) (by kernel_rfl) rfl (.inl fun _ _ => trivial) ⟨⟨hS87.hasK (hS73.le.trans hS85.le), hS87.hasObj (.tail _ (.tail _ (.tail _ (.head _)))), hS87.hasObj (.tail _ (.tail _ (.head _)))⟩, (fun _ => trivial), by decide⟩ wn rfl (fun _ _ => (rv_pick_t (v := .bool true) rfl rfl rfl)) ?_
    refine wg_done (by kernel_rfl) ?_
    obtain rfl := oi h89
    have hS90 : SH _ _ _ _ _ [_, _, _, _, _, _, _] := SH.front (p := [_, _]) hS87
    have hS91 : SH _ _ _ _ _ [_, _, _, _, _, _, _] := SH.front (p := [_, _, _]) hS90
    have hS92 : SH _ _ _ _ _ [_, _] := SH.sublist hS91 (.cons_cons _ (.cons_cons _ (.cons _ (.cons _ (.cons _ (.cons _ (.cons _ .slnil)))))))
    exact qe_mid' ⟨K83, rfl, hS92, (hS73.le.trans hS85.le)⟩ ⟨rfl, rfl, rfl, rfl, rfl, rfl, trivial⟩
   ·have h89 := cond_f hb88 h82
    refine wg_val (i := 9) (listed' := #[true, true, true, true, true, true, true, true, true, true, false, false, false, false, false, false, false, false, false, false, false, false, false]) (HasObj g33 [.slice a13 n14 c15, .slice a17 n18 c19]) rfl (by kernel_rfl) (pk_then (pk_then (pk_then pk_body))) (by kernel_rfl) rfl (by kernel_rfl) (by kernel_rfl) rfl (.inl fun _ h => h.2.1) ⟨⟨hS87.hasK (hS73.le.trans hS85.le), hS87.hasObj (.tail _ (.tail _ (.tail _ (.head _)))), hS87.hasObj (.tail _ (.tail _ (.head _)))⟩, (fun _ => trivial), by decide⟩ (wg rfl rfl hb88) rfl (fun _ h => rh_loadmS (ds := [.slice a13 n14 c15, .slice a17 n18 c19]) tf26 rfl rfl rfl h) ?_
    refine wg_val (i := 10) (listed' := #[true, true, true, true, true, true, true, true, true, true, true, false, false, false, false, false, false, false, false, false, false, false, false]) (HasObj g37 [.slice a21 n22 c23, .slice a25 n26 c27]) rfl (by kernel_rfl) (pk_then (pk_then (pk_then pk_body))) (by kernel_rfl) rfl (by kernel_rfl) (by kernel_rfl) rfl (.inl fun _ h => h.2.2) ⟨⟨hS87.hasK (hS73.le.trans hS85.le), hS87.hasObj (.tail _ (.tail _ (.tail _ (.head _)))), hS87.hasObj (.tail _ (.tail _ (.head _)))⟩, (fun _ => trivial), by decide⟩ (wg rfl rfl hb88) rfl (fun _ h => rh_loadmS (ds := [.slice a21 n22 c23, .slice a25 n26 c27]) tf30 rfl rfl rfl h) ?_
    refine wg_val (i := 12) (listed' := #[true, true, true, true, true, true, true, true, true, true, true, false, true, false, false, false, false, false, false, false, false, false, false]) (HasObj g33 [.slice a13 n14 c15, .slice a17 n18 c19]) rfl (by kernel_rfl) (pk_then (pk_then (pk_then pk_body))) (by kernel_rfl) rfl (by kernel_rfl) (by kernel_rfl) rfl (.inl fun _ h => h.2.1) ⟨⟨hS87.hasK (hS73.le.trans hS85.le), hS87.hasObj (.tail _ (.tail _ (.tail _ (.head _)))), hS87.hasObj (.tail _ (.tail _ (.head _)))⟩, (fun _ => trivial), by decide⟩ (wg rfl rfl hb88) rfl (fun _ h => rh_loadmS (ds := [.slice a13 n14 c15, .slice a17 n18 c19]) tf26 rfl rfl rfl h) ?_
    refine wg_val (i := 13) (listed' := #[true, true, true, true, true, true, true, true, true, true, true, false, true, true, false, false, false, false, false, false, false, false, false]) (HasObj g37 [.slice a21 n22 c23, .slice a25 n26 c27]) rfl (by kernel_rfl) (pk_then (pk_then (pk_then pk_body))) (by kernel_rfl) rfl (by kernel_rfl) (by kernel_rfl) rfl (.inl fun _ h => h.2.2) ⟨⟨hS87.hasK (hS73.le.trans hS85.le), hS87.hasObj (.tail _ (.tail _ (.tail _ (.head _)))), hS87.hasObj (.tail _ (.tail _ (.head _)))⟩, (fun _ => trivial), by decide⟩ (wg rfl rfl hb88) rfl (fun _ h => rh_loadmS (ds := [.slice a21 n22 c23, .slice a25 n26 c27]) tf30 rfl rfl rfl h) ?_
    refine wg_one (i := 11) (by kernel_rfl) rfl ?_
    obtain ⟨r93, hx94, h95⟩ := ob h89
    refine wl_call (wg rfl rfl hb88) rfl (rt_call (vs := [.agg #[.slice a13 n14 c15, .slice a17 n18 c19], .agg #[.slice a21 n22 c23, .slice a25 n26 c27]]) co13 rfl) ((ok_impl_SegOk F) hS87.enter0 (SliceAt.mono ((hS52.le.trans hS73.le).trans hS85.le) hs16) (SliceAt.mono ((hS52.le.trans hS73.le).trans hS85.le) hs20) (SliceAt.mono ((hS52.le.trans hS73.le).trans hS85.le) hs24) (SliceAt.mono ((hS52.le.trans hS73.le).trans hS85.le) hs28) hx94) ?_
    rintro e99 w97 ⟨K96, rfl, hS98⟩
    refine ⟨_, rfl, ?_⟩
    have hS100 : SH _ _ _ _ _ [_, _, _, _, _, _, _] := SH.call0 hS87 hS98
    refine wl_nil (qe_held (listed' := #[true, true, true, true, true, true, true, true, true, true, true, true, true, true, false, false, false, false, false, false, false, false, false]) rfl ⟨⟨hS100.hasK ((hS73.le.trans hS85.le).trans hS98.le), hS100.hasObj (.tail _ (.tail _ (.tail _ (.head _)))), hS100.hasObj (.tail _ (.tail _ (.head _)))⟩, (fun _ => trivial), by decide⟩ ?_)
    refine wg_one (i := 14) (by kernel_rfl) rfl ?_
    obtain ⟨r101, hx102, h103⟩ := ob h95
    refine wl_call (wg rfl rfl hb88) rfl (rt_call (vs := [.agg #[.slice a13 n14 c15, .slice a17 n18 c19], .agg #[.slice a21 n22 c23, .slice a25 n26 c27]]) co14 rfl) ((ok_spec_SegOk F) hS100.enter0 (SliceAt.mono (((hS52.le.trans hS73.le).trans hS85.le).trans hS98.le) hs16) (SliceAt.mono (((hS52.le.trans hS73.le).trans hS85.le).trans hS98.le) hs20) (SliceAt.mono (((hS52.le.trans hS73.le).trans hS85.le).trans hS98.le) hs24) (SliceAt.mono (((hS52.le.trans hS73.le).trans hS85.le).trans hS98.le) hs28) hx102) ?_
    rintro e107 w105 ⟨K104, rfl, hS106⟩
    refine ⟨_, rfl, ?_⟩
    have hS108 : SH _ _ _ _ _ [_, _, _, _, _, _, _] := SH.call0 hS100 hS106
    refine wl_nil (qe_held (listed' := #[true, true, true, true, true, true, true, true, true, true, true, true, true, true, true, false, false, false, false, false, false, false, false]) rfl ⟨⟨hS108.hasK (((hS73.le.trans hS85.le).trans hS98.le).trans hS106.le), hS108.hasObj (.tail _ (.tail _ (.tail _ (.head _)))), hS108.hasObj (.tail _ (.tail _ (.head _)))⟩, (fun _ => trivial), by decide⟩ ?_)
    refine wg_val (i := 15) (listed' := #[true, true, true, true, true, true, true, true, true, true, true, true, true, true, true, true, false, false, false, false, false, false, false]) (fun _ => True) rfl (by kernel_rfl) (pk_then (pk_then (pk_then pk_body))) (by kernel_rfl) rfl (by kernel_rfl) (by kernel_rfl) rfl (.inl fun _ _ => trivial) ⟨⟨hS108.hasK (((hS73.le.trans hS85.le).trans hS98.le).trans hS106.le), hS108.hasObj (.tail _ (.tail _ (.tail _ (.head _)))), hS108.hasObj (.tail _ (.tail _ (.head _)))⟩, (fun _ => trivial), by decide⟩ (wg rfl rfl hb88) rfl (fun _ _ => (rv_boolne Tryz.underlying4 rfl rfl)) ?_
    refine wg_val (i := 16) (listed' := #[true, true, true, true, true, true, true, true, true, true, true, true, true, true, true, true, true, false, false, false, false, false, false]) (fun _ => True) rfl (by kernel_rfl) (pk_then (pk_then (pk_then pk_body))) (by kernel_rfl) rfl (by kernel_rfl) (by kernel_rfl) rfl (.inl fun _ _ => trivial) ⟨⟨hS108.hasK (((hS73.le.trans hS85.le).trans hS98.le).trans hS106.le), hS108.hasObj (.tail _ (.tail _ (.tail _ (.head _)))), hS108.hasObj (.tail _ (.tail _ (.head _)))⟩, (fun _ => trivial), by decide⟩ wn rfl (fun _ _ => (rv_pick_f rfl hb88 rfl)) ?_
    refine wg_val (i := 17) (listed' := #[true, true, true, true, true, true, true, true, true, true, true, true, true, true, true, true, true, true, false, false, false, false, false]) (fun _ => True) rfl (by kernel_rfl) (pk_then (pk_then (pk_then pk_body))) (by kernel_rfl) rfl (by kernel_rfl) (by kernel_rfl) rfl (.inl fun _ _ => trivial) ⟨⟨hS108.hasK (((hS73.le.trans hS85.le).trans hS98.le).trans hS106.le), hS108.hasObj (.tail _ (.tail _ (.tail _ (.head _)))), hS108.hasObj (.tail _ (.tail _ (.head _)))⟩, (fun _ => trivial), by decide⟩ wn rfl (fun _ _ => (rv_move rfl)) ?_
    rcases bool_tf ((!(r93 == r101))) with hb109 | hb109
    ·have h110 := cond_t hb109 h103
     refine wg_un (i := 18) (listed' := #[true, true, true, true, true, true, true, true, true, true, true, true, true, true, true, true, true, true, true, false, false, false, false]) rfl (by kernel_rfl) (pk_then (pk_then (pk_then pk_body))) (by kernel_rfl) rfl (by kernel_rfl) (by kernel_rfl) rfl ⟨⟨hS108.hasK (((hS73.le.trans hS85.le).trans hS98.le).trans hS106.le), hS108.hasObj (.tail _ (.tail _ (.tail _ (.head _)))), hS108.hasObj (.tail _ (.tail _ (.head _)))⟩, (fun _ => trivial), by decide⟩ (ug rfl rfl hb109) rfl ?_
     refine wg_un (i := 19) (listed' := #[true, true, true, true, true, true, true, true, true, true, true, true, true, true, true, true, true, true, true, true, false, false, false]) rfl (by kernel_rfl) (pk_then (pk_then (pk_then pk_body))) (by kernel_rfl) rfl (by kernel_rfl) (by kernel_rfl) rfl ⟨⟨hS108.hasK (((hS73.le.trans hS85.le).trans hS98.le).trans hS106.le), hS108.hasObj (.tail _ (.tail _ (.tail _ (.head _)))), hS108.hasObj (.tail _ (.tail _ (.head _)))⟩, (fun _ => trivial), by decide⟩ (ug rfl rfl hb109) rfl ?_
     refine wg_one (i := 20) (by kernel_rfl) rfl ?_
     refine wl_un (ug rfl rfl hb109) rfl ?_
     refine wl_nil (qe_held (listed' := #[true, true, true, true, true, true, true, true, true, true, true, true, true, true, true, true, true, true, true, true, true, false, false]) rfl ⟨⟨hS108.hasK (((hS73.le.trans hS85.le).trans hS98.le).trans hS106.le), hS108.hasObj (.tail _ (.tail _ (.tail _ (.head _)))), hS108.hasObj (.tail _ (.tail _ (.head _)))⟩, (fun _ => trivial), by decide⟩ ?_)
     refine wg_un (i := 21) (listed' := #[true, true, true, true, true, true, true, true, true, true, true, true, true, true, true, true, true, true, true, true, true, true, false]) rfl (by kernel_rfl) (pk_then (pk_then (pk_then pk_body))) (by kernel_rfl) rfl (by kernel_rfl) (by kernel_rfl) rfl ⟨⟨hS108.hasK (((hS73.le.trans hS85.le).trans hS98.le).trans hS106.le), hS108.hasObj (.tail _ (.tail _ (.tail _ (.head _)))), hS108.hasObj (.tail _ (.tail _ (.head _)))⟩, (fun _ => trivial), by decide⟩ (ug rfl rfl hb109) rfl ?_
     refine wg_val (i := 22) (listed' := #[true, true, true, true, true, true, true, true, true, true, true, true, true, true, true, true, true, true, true, true, true, true, true]) (fun _ => True) rfl (by kernel_rfl) (pk_then (pk_then (pk_then pk_body))) (by kernel_rfl) rfl (by kernel_rfl) (by kernel_rfl) rfl (.inl fun _ _ => trivial) ⟨⟨hS108.hasK (((hS73.le.trans hS85.le).trans hS98.le).trans hS106.le), hS108.hasObj (.tail _ (.tail _ (.tail _ (.head _)))), hS108.hasObj (.tail _ (.tail _ (.head _)))⟩, (fun _ => trivial), by decide⟩ wn rfl (fun _ _ => (rv_pick_t (v := .bool true) rfl hb109 rfl)) ?_
     refine wg_done (by kernel_rfl) ?_
     obtain rfl := oi h110
     have hS111 : SH _ _ _ _ _ [_, _, _, _, _, _, _] := SH.front (p := [_, _]) hS108
     have hS112 : SH _ _ _ _ _ [_, _, _, _, _, _, _] := SH.front (p := [_, _, _]) hS111
     have hS113 : SH _ _ _ _ _ [_, _] := SH.sublist hS112 (.cons_cons _ (.cons_cons _ (.cons _ (.cons _ (.cons _ (.cons _ (.cons _ .slnil)))))))
     exact qe_mid' ⟨K104, rfl, hS113, (((hS73.le.trans hS85.le).trans hS98.le).trans hS106.le)⟩ ⟨rfl, rfl, rfl, rfl, rfl, rfl, trivial⟩
    ·have h110 := cond_f hb109 h103
     refine wg_val (i := 18) (listed' := #[true, true, true, true, true, true, true, true, true, true, true, true, true, true, true, true, true, true, true, false, false, false, false]) (HasObj g33 [.slice a13 n14 c15, .slice a17 n18 c19]) rfl (by kernel_rfl) (pk_then (pk_then (pk_then pk_body))) (by kernel_rfl) rfl (by kernel_rfl) (by kernel_rfl) rfl (.inl fun _ h => h.2.1) ⟨⟨hS108.hasK (((hS73.le.trans hS85.le).trans hS98.le).trans hS106.le), hS108.hasObj (.tail _ (.tail _ (.tail _ (.head _)))), hS108.hasObj (.tail _ (.tail _ (.head _)))⟩, (fun _ => trivial), by decide⟩ (wg rfl rfl hb109) rfl (fun _ h => rh_loadmS (ds := [.slice a13 n14 c15, .slice a17 n18 c19]) tf26 rfl rfl rfl h) ?_
     refine wg_val (i := 19) (listed' := #[true, true, true, true, true, true, true, true, true, true, true, true, true, true, true, true, true, true, true, true, false, false, false]) (HasObj g37 [.slice a21 n22 c23, .slice a25 n26 c27]) rfl (by kernel_rfl) (pk_then (pk_then (pk_then pk_body))) (by kernel_rfl) rfl (by kernel_rfl) (by kernel_rfl) rfl (.inl fun _ h => h.2.2) ⟨⟨hS108.hasK (((hS73.le.trans hS85.le).trans hS98.le).trans hS106.le), hS108.hasObj (.tail _ (.tail _ (.tail _ (.head _)))), hS108.hasObj (.tail _ (.tail _ (.head _)))⟩, (fun _ => trivial), by decide⟩ (wg rfl rfl hb109) rfl (fun _ h => rh_loadmS (ds := [.slice a21 n22 c23, .slice a25 n26 c27]) tf30 rfl rfl rfl h) ?_
     refine wg_one (i := 20) (by kernel_rfl) rfl ?_
     obtain ⟨r114, hx115, h116⟩ := ob h110
     refine wl_call (wg rfl rfl hb109) rfl (rt_call (vs := [.agg #[.slice a13 n14 c15, .slice a17 n18 c19], .agg #[.slice a21 n22 c23, .slice a25 n26 c27]]) co13 rfl) ((ok_impl_SegOk F) hS108.enter0 (SliceAt.mono ((((hS52.le.trans hS73.le).trans hS85.le).trans hS98.le).trans hS106.le) hs16) (SliceAt.mono ((((hS52.le.trans hS73.le).trans hS85.le).trans hS98.le).trans hS106.le) hs20) (SliceAt.mono ((((hS52.le.trans hS73.le).trans hS85.le).trans hS98.le).trans hS106.le) hs24) (SliceAt.mono ((((hS52.le.trans hS73.le).trans hS85.le).trans hS98.le).trans hS106.le) hs28) hx115) ?_
     rintro e120 w118 ⟨K117, rfl, hS119⟩
     refine ⟨_, rfl, ?_⟩
     have hS121 : SH _ _ _ _ _ [_, _, _, _, _, _, _] := SH.call0 hS108 hS119
     refine wl_nil (qe_held (listed' := #[true, true, true, true, true, true, true, true, true, true, true, true, true, true, true, true, true, true, true, true, true, false, false]) rfl ⟨⟨hS121.hasK ((((hS73.le.trans hS85.le).trans hS98.le).trans hS106.le).trans hS119.le), hS121.hasObj (.tail _ (.tail _ (.tail _ (.head _)))), hS121.hasObj (.tail _ (.tail _ (.head _)))⟩, (fun _ => trivial), by decide⟩ ?_)
     refine wg_val (i := 21) (listed' := #[true, true, true, true, true, true, true, true, true, true, true, true, true, true, true, true, true, true, true, true, true, true, false]) (fun _ => True) rfl (by kernel_rfl) (pk_then (pk_then (pk_then pk_body))) (by kernel_rfl) rfl (by kernel_rfl) (by kernel_rfl) rfl (.inl fun _ _ => trivial) ⟨⟨hS121.hasK ((((hS73.le.trans hS85.le).trans hS98.le).trans hS106.le).trans hS119.le), hS121.hasObj (.tail _ (.tail _ (.tail _ (.head _)))), hS121.hasObj (.tail _ (.tail _ (.head _)))⟩, (fun _ => trivial), by decide⟩ (wg rfl rfl hb109) rfl (fun _ _ => (rv_not rfl)) ?_
     refine wg_val (i := 22) (listed' := #[true, true, true, true, true, true, true, true, true, true, true, true, true, true, true, true, true, true, true, true, true, true, true]) (fun _ => True) rfl (by kernel_rfl) (pk_then (pk_then (pk_then pk_body))) (by kernel_rfl) rfl (by kernel_rfl) (by kernel_rfl) rfl (.inl fun _ _ => trivial) ⟨⟨hS121.hasK ((((hS73.le.trans hS85.le).trans hS98.le).trans hS106.le).trans hS119.le), hS121.hasObj (.tail _ (.tail _ (.tail _ (.head _)))), hS121.hasObj (.tail _ (.tail _ (.head _)))⟩, (fun _ => trivial), by decide⟩ wn rfl (fun _ _ => (rv_pick_f rfl hb109 rfl)) ?_
     refine wg_done (by kernel_rfl) ?_
     obtain rfl := oi h116
     have hS122 : SH _ _ _ _ _ [_, _, _, _, _, _, _] := SH.front (p := [_, _]) hS121
     have hS123 : SH _ _ _ _ _ [_, _, _, _, _, _, _] := SH.front (p := [_, _, _]) hS122
     have hS124 : SH _ _ _ _ _ [_, _] := SH.sublist hS123 (.cons_cons _ (.cons_cons _ (.cons _ (.cons _ (.cons _ (.cons _ (.cons _ .slnil)))))))
     exact qe_mid' ⟨K117, rfl, hS124, ((((hS73.le.trans hS85.le).trans hS98.le).trans hS106.le).trans hS119.le)⟩ ⟨rfl, rfl, rfl, rfl, rfl, rfl, trivial⟩
  ·rintro _ w64 ⟨K62, rfl, hS65, hl63⟩
   refine qe_seq ?_
   refine wc_cond rfl (fun hb125 => ?_) (fun hb125 => ?_)
   ·have h126 := cond_t hb125 h61
    refine wc_seq ?_
    obtain ⟨o127, h128, h129⟩ := ob h126
    refine wc_cutg (fun E' w' => ∃ (K130 : KMap), E' = [(2, .bool o127)] ∧ SH w K [] w' K130 [] ∧ KLe K62 K130) ?_ ?_
    ·refine wc_held (fun w' => Holds K62 w' ∧ HasObj g33 [.slice a13 n14 c15, .slice a17 n18 c19] w' ∧ HasObj g37 [.slice a21 n22 c23, .slice a25 n26 c27] w') (fun w' => True) 17 [] mixed ?_
     have hS135 := SH.drew hS65
     refine wg_val (i := 0) (listed' := #[true, false, false, false, false, false, false, false, false, false, false, false, false, false, false, false, false]) (fun _ => True) rfl (by kernel_rfl) (pk_then (pk_then (pk_then pk_body))) (by kernel_rfl) rfl (by kernel_rfl) (by kernel_rfl) rfl (.inl fun _ _ => trivial) ⟨⟨hS135.hasK (KLe.refl _), hS135.hasObj (.head _), hS135.hasObj (.tail _ (.head _))⟩, (fun _ => trivial), by decide⟩ wn rfl (fun _ _ => (rv_move rfl)) ?_
     refine wg_val (i := 1) (listed' := #[true, true, false, false, false, false, false, false, false, false, false, false, false, false, false, false, false]) (HasObj g33 [.slice a13 n14 c15, .slice a17 n18 c19]) rfl (by kernel_rfl) (pk_then (pk_then (pk_then pk_body))) (by kernel_rfl) rfl (by kernel_rfl) (by kernel_rfl) rfl (.inl fun _ h => h.2.1) ⟨⟨hS135.hasK (KLe.refl _), hS135.hasObj (.head _), hS135.hasObj (.tail _ (.head _))⟩, (fun _ => trivial), by decide⟩ wn rfl (fun _ h => rh_loadmS (ds := [.slice a13 n14 c15, .slice a17 n18 c19]) tf26 rfl rfl rfl h) ?_
     refine wg_val (i := 2) (listed' := #[true, true, true, false, false, false, false, false, false, false, false, false, false, false, false, false, false]) (HasObj g37 [.slice a21 n22 c23, .slice a25 n26 c27]) rfl (by kernel_rfl) (pk_then (pk_then (pk_then pk_body))) (by kernel_rfl) rfl (by kernel_rfl) (by kernel_rfl) rfl (.inl fun _ h => h.2.2) ⟨⟨hS135.hasK (KLe.refl _), hS135.hasObj (.head _), hS135.hasObj (.tail _ (.head _))⟩, (fun _ => trivial), by decide⟩ wn rfl (fun _ h => rh_loadmS (ds := [.slice a21 n22 c23, .slice a25 n26 c27]) tf30 rfl rfl rfl h) ?_
     refine wg_val (i := 3) (listed' := #[true, true, true, true, false, false, false, false, false, false, false, false, false, false, false, false, false]) (fun _ => True) rfl (by kernel_rfl) (pk_then (pk_then (pk_then pk_body))) (by kernel_rfl) rfl (by kernel_rfl) (by kernel_rfl) rfl (.inl fun _ _ => trivial) ⟨⟨hS135.hasK (KLe.refl _), hS135.hasObj (.head _), hS135.hasObj (.tail _ (.head _))⟩, (fun _ => trivial), by decide⟩ wn rfl (fun _ _ => (rv_move rfl)) ?_
     refine wg_val (i := 4) (listed' := #[true, true, true, true, true, false, false, false, false, false, false, false, false, false, false, false, false]) (fun _ => True) rfl (by kernel_rfl) (pk_then (pk_then (pk_then pk_body))) (by kernel_rfl) rfl (by kernel_rfl) (by kernel_rfl) rfl (.inl fun _ _ => trivial) ⟨⟨hS135.hasK (KLe.refl _), hS135.hasObj (.head _), hS135.hasObj (.tail _ (.head _))⟩, (fun _ => trivial), by decide⟩ wn rfl (fun _ _ => (rv_move rfl)) ?_
     refine wg_one (i := 5) (by kernel_rfl) rfl ?_
     obtain ⟨r136, hx137, h138⟩ := ob h128
     refine wl_call wn rfl (rt_call (vs := [.agg #[.slice a13 n14 c15, .slice a17 n18 c19], .agg #[.slice a21 n22 c23, .slice a25 n26 c27], sv r7.2.2.1, sv r7.2.2.2]) co12 rfl) ((ok_spec_SegPosts F) hS135.enter0 (SliceAt.mono (hS52.le.trans hl63) hs16) (SliceAt.mono (hS52.le.trans hl63) hs20) (SliceAt.mono (hS52.le.trans hl63) hs24) (SliceAt.mono (hS52.le.trans hl63) hs28) hl29 hl30 hx137) ?_
     rintro e146 w140 ⟨a142, n143, c144, K139, rfl, hS141, hs145⟩
     refine ⟨_, rfl, ?_⟩
     have hS147 : SH _ _ _ _ _ [_, _, _] := SH.call0 hS135 hS141
     refine wl_nil (qe_held (listed' := #[true, true, true, true, true, true, false, false, false, false, false, false, false, false, false, false, false]) rfl ⟨⟨hS147.hasK hS141.le, hS147.hasObj (.tail _ (.head _)), hS147.hasObj (.tail _ (.tail _ (.head _)))⟩, (fun _ => trivial), by decide⟩ ?_)
     refine wg_one (i := 6) (by kernel_rfl) rfl ?_
     obtain ⟨r148, hx149, h150⟩ := ob h138
     refine wl_call wn rfl (rt_call (vs := [.slice a53 n54 c55, .slice a142 n143 c144]) co11 rfl) ((ok_laws_foPosts F) hS147.enter0 (SliceAt.mono (hl63.trans hS141.le) hs56) hs145 hx149) ?_
     rintro e154 w152 ⟨K151, rfl, hS153⟩
     refine ⟨_, rfl, ?_⟩
     have hS155 : SH _ _ _ _ _ [_, _, _] := SH.call0 hS147 hS153
     refine wl_nil (qe_held (listed' := #[true, true, true, true, true, true, true, false, false, false, false, false, false, false, false, false, false]) rfl ⟨⟨hS155.hasK (hS141.le.trans hS153.le), hS155.hasObj (.tail _ (.head _)), hS155.hasObj (.tail _ (.tail _ (.head _)))⟩, (fun _ => trivial), by decide⟩ ?_)
     refine wg_val (i := 7) (listed' := #[true, true, true, true, true, true, true, true, false, false, false, false, false, false, false, false, false]) (fun _ => True) rfl (by kernel_rfl) (pk_then (pk_then (pk_then pk_body))) (by kernel_rfl) rfl (by kernel_rfl) (by kernel_rfl) rfl (.inl fun _ _ => trivial) ⟨⟨hS155.hasK (hS141.le.trans hS153.le), hS155.hasObj (.tail _ (.head _)), hS155.hasObj (.tail _ (.tail _ (.head _)))⟩, (fun _ => trivial), by decide⟩ wn rfl (fun _ _ => (rv_move rfl)) ?_
     rcases bool_tf (r148) with hb156 | hb156
     ·have h157 := cond_t hb156 h150
      refine wg_val (i := 8) (listed' := #[true, true, true, true, true, true, true, true, true, false, false, false, false, false, false, false, false]) (HasObj g33 [.slice a13 n14 c15, .slice a17 n18 c19]) rfl (by kernel_rfl) (pk_then (pk_then (pk_then pk_body))) (by kernel_rfl) rfl (by kernel_rfl) (by kernel_rfl) rfl (.inl fun _ h => h.2.1) ⟨⟨hS155.hasK (hS141.le.trans hS153.le), hS155.hasObj (.tail _ (.head _)), hS155.hasObj (.tail _ (.tail _ (.head _)))⟩, (fun _ => trivial), by decide⟩ (wg rfl rfl hb156) rfl (fun _ h => rh_loadmS (ds := [.slice a13 n14 c15, .slice a17 n18 c19]) tf26 rfl rfl rfl h) ?_
      refine wg_val (i := 9) (listed' := #[true, true, true, true, true, true, true, true, true, true, false, false, false, false, false, false, false]) (HasObj g37 [.slice a21 n22 c23, .slice a25 n26 c27]) rfl (by kernel_rfl) (pk_then (pk_then (pk_then pk_body))) (by kernel_rfl) rfl (by kernel_rfl) (by kernel_rfl) rfl (.inl fun _ h => h.2.2) ⟨⟨hS155.hasK (hS141.le.trans hS153.le), hS155.hasObj (.tail _ (.head _)), hS155.hasObj (.tail _ (.tail _ (.head _)))⟩, (fun _ => trivial), by decide⟩ (wg rfl rfl hb156) rfl (fun _ h => rh_loadmS (ds := [.slice a21 n22 c23, .slice a25 n26 c27]) tf30 rfl rfl rfl h) ?_
      refine wg_val (i := 11) (listed' := #[true, true, true, true, true, true, true, true, true, true, false, true, false, false, false, false, false]) (HasObj g33 [.slice a13 n14 c15, .slice a17 n18 c19]) rfl (by kernel_rfl) (pk_then (pk_then (pk_then pk_body))) (by kernel_rfl) rfl (by kernel_rfl) (by kernel_rfl) rfl (.inl fun _ h => h.2.1) ⟨⟨hS155.hasK (hS141.le.trans hS153.le), hS155.hasObj (.tail _ (.head _)), hS155.hasObj (.tail _ (.tail _ (.head _)))⟩, (fun _ => trivial), by decide⟩ (wg rfl rfl hb156) rfl (fun _ h => rh_loadmS (ds := [.slice a13 n14 c15, .slice a17 n18 c19]) tf26 rfl rfl rfl h) ?_
      refine wg_val (i := 12) (listed' := #[true, true, true, true, true, true, true, true, true, true, false, true, true, false, false, false, false]) (HasObj g37 [.slice a21 n22 c23, .slice a25 n26 c27]) rfl (by kernel_rfl) (pk_then (pk_then (pk_then pk_body))) (by kernel_rfl) rfl (by kernel_rfl) (by kernel_rfl) rfl (.inl fun _ h => h.2.2) ⟨⟨hS155.hasK (hS141.le.trans hS153.le), hS155.hasObj (.tail _ (.head _)), hS155.hasObj (.tail _ (.tail _ (.head _)))⟩, (fun _ => trivial), by decide⟩ (wg rfl rfl hb156) rfl (fun _ h => rh_loadmS (ds := [.slice a21 n22 c23, .slice a25 n26 c27]) tf30 rfl rfl rfl h) ?_
      refine wg_one (i := 10) (by kernel_rfl) rfl ?_
      obtain ⟨r158, hx159, h160⟩ := ob h157
      refine wl_call (wg rfl rfl hb156) rfl (rt_call (vs := [.agg #[.slice a13 n14 c15, .slice a17 n18 c19], .agg #[.slice a21 n22 c23, .slice a25 n26 c27]]) co13 rfl) ((ok_impl_SegOk F) hS155.enter0 (SliceAt.mono (((hS52.le.trans hl63).trans hS141.le).trans hS153.le) hs16) (SliceAt.mono (((hS52.le.trans hl63).trans hS141.le).trans hS153.le) hs20) (SliceAt.mono (((hS52.le.trans hl63).trans hS141.le).trans hS153.le) hs24) (SliceAt.mono (((hS52.le.trans hl63).trans hS141.le).trans hS153.le) hs28) hx159) ?_
      rintro e164 w162 ⟨K161, rfl, hS163⟩
      refine ⟨_, rfl, ?_⟩
      have hS165 : SH _ _ _ _ _ [_, _, _] := SH.call0 hS155 hS163
      refine wl_nil (qe_held (listed' := #[true, true, true, true, true, true, true, true, true, true, true, true, true, false, false, false, false]) rfl ⟨⟨hS165.hasK ((hS141.le.trans hS153.le).trans hS163.le), hS165.hasObj (.tail _ (.head _)), hS165.hasObj (.tail _ (.tail _ (.head _)))⟩, (fun _ => trivial), by decide⟩ ?_)
      refine wg_one (i := 13) (by kernel_rfl) rfl ?_
      obtain ⟨r166, hx167, h168⟩ := ob h160
      refine wl_call (wg rfl rfl hb156) rfl (rt_call (vs := [.agg #[.slice a13 n14 c15, .slice a17 n18 c19], .agg #[.slice a21 n22 c23, .slice a25 n26 c27]]) co14 rfl) ((ok_spec_SegOk F) hS165.enter0 (SliceAt.mono ((((hS52.le.trans hl63).trans hS141.le).trans hS153.le).trans hS163.le) hs16) (SliceAt.mono ((((hS52.le.trans hl63).trans hS141.le).trans hS153.le).trans hS163.le) hs20) (SliceAt.mono ((((hS52.le.trans hl63).trans hS141.le).trans hS153.le).trans hS163.le) hs24) (SliceAt.mono ((((hS52.le.trans hl63).trans hS141.le).trans hS153.le).trans hS163.le) hs28) hx167) ?_
      rintro e172 w170 ⟨K169, rfl, hS171⟩
      refine ⟨_, rfl, ?_⟩
      have hS173 : SH _ _ _ _ _ [_, _, _] := SH.call0 hS165 hS171
      refine wl_nil (qe_held (listed' := #[true, true, true, true, true, true, true, true, true, true, true, true, true, true, false, false, false]) rfl ⟨⟨hS173.hasK (((hS141.le.trans hS153.le).trans hS163.le).trans hS171.le), hS173.hasObj (.tail _ (.head _)), hS173.hasObj (.tail _ (.tail _ (.head _)))⟩, (fun _ => trivial), by decide⟩ ?_)
      refine wg_val (i := 14) (listed' := #[true, true, true, true, true, true, true, true, true, true, true, true, true, true, true, false, false]) (fun _ => True) rfl (by kernel_rfl) (pk_then (pk_then (pk_then pk_body))) (by kernel_rfl) rfl (by kernel_rfl) (by kernel_rfl) rfl (.inl fun _ _ => trivial) ⟨⟨hS173.hasK (((hS141.le.trans hS153.le).trans hS163.le).trans hS171.le), hS173.hasObj (.tail _ (.head _)), hS173.hasObj (.tail _ (.tail _ (.head _)))⟩, (fun _ => trivial), by decide⟩ (wg rfl rfl hb156) rfl (fun _ _ => (rv_booleq Tryz.underlying4 rfl rfl)) ?_
      refine wg_val (i := 15) (listed' := #[true, true, true, true, true, true, true, true, true, true, true, true, true, true, true, true, false]) (fun _ => True) rfl (by kernel_rfl) (pk_then (pk_then (pk_then pk_body))) (by kernel_rfl) rfl (by kernel_rfl) (by kernel_rfl) rfl (.inl fun _ _ => trivial) ⟨⟨hS173.hasK (((hS141.le.trans hS153.le).trans hS163.le).trans hS171.le), hS173.hasObj (.tail _ (.head _)), hS173.hasObj (.tail _ (.tail _ (.head _)))⟩, (fun _ => trivial), by decide⟩ wn rfl (fun _ _ => (rv_pick_t rfl hb156 rfl)) ?_
      refine wg_val (i := 16) (listed' := #[true, true, true, true, true, true, true, true, true, true, true, true, true, true, true, true, true]) (fun _ => True) rfl (by kernel_rfl) (pk_then (pk_then (pk_then pk_body))) (by kernel_rfl) rfl (by kernel_rfl) (by kernel_rfl) rfl (.inl fun _ _ => trivial) ⟨⟨hS173.hasK (((hS141.le.trans hS153.le).trans hS163.le).trans hS171.le), hS173.hasObj (.tail _ (.head _)), hS173.hasObj (.tail _ (.tail _ (.head _)))⟩, (fun _ => trivial), by decide⟩ wn rfl (fun _ _ => (rv_assign rfl)) ?_
      refine wg_done (by kernel_rfl) ?_
      obtain rfl := oi h168
      have hS174 : SH _ _ _ _ _ [] := SH.sublist hS173 (.cons _ (.cons _ (.cons _ .slnil)))
      exact qe_mid' ⟨K169, rfl, hS174, (((hS141.le.trans hS153.le).trans hS163.le).trans hS171.le)⟩ ⟨rfl, trivial⟩
     ·have h157 := cond_f hb156 h150
      refine wg_un (i := 8) (listed' := #[true, true, true, true, true, true, true, true, true, false, false, false, false, false, false, false, false]) rfl (by kernel_rfl) (pk_then (pk_then (pk_then pk_body))) (by kernel_rfl) rfl (by kernel_rfl) (by kernel_rfl) rfl ⟨⟨hS155.hasK (hS141.le.trans hS153.le), hS155.hasObj (.tail _ (.head _)), hS155.hasObj (.tail _ (.tail _ (.head _)))⟩, (fun _ => trivial), by decide⟩ (ug rfl rfl hb156) rfl ?_
      refine wg_un (i := 9) (listed' := #[true, true, true, true, true, true, true, true, true, true, false, false, false, false, false, false, false]) rfl (by kernel_rfl) (pk_then (pk_then (pk_then pk_body))) (by kernel_rfl) rfl (by kernel_rfl) (by kernel_rfl) rfl ⟨⟨hS155.hasK (hS141.le.trans hS153.le), hS155.hasObj (.tail _ (.head _)), hS155.hasObj (.tail _ (.tail _ (.head _)))⟩, (fun _ => trivial), by decide⟩ (ug rfl rfl hb156) rfl ?_
      refine wg_un (i := 11) (listed' := #[true, true, true, true, true, true, true, true, true, true, false, true, false, false, false, false, false]) rfl (by kernel_rfl) (pk_then (pk_then (pk_then pk_body))) (by kernel_rfl) rfl (by kernel_rfl) (by kernel_rfl) rfl ⟨⟨hS155.hasK (hS141.le.trans hS153.le), hS155.hasObj (.tail _ (.head _)), hS155.hasObj (.tail _ (.tail _ (.head _)))⟩, (fun _ => trivial), by decide⟩ (ug rfl rfl hb156) rfl ?_
      refine wg_un (i := 12) (listed' := #[true, true, true, true, true, true, true, true, true, true, false, true, true, false, false, false, false]) rfl (by kernel_rfl) (pk_then (pk_then (pk_then pk_body))) (by kernel_rfl) rfl (by kernel_rfl) (by kernel_rfl) rfl ⟨⟨hS155.hasK (hS141.le.trans hS153.le), hS155.hasObj (.tail _ (.head _)), hS155.hasObj (.tail _ (.tail _ (.head _)))⟩, (fun _ => trivial), by decide⟩ (ug rfl rfl hb156) rfl ?_
      refine wg_one (i := 10) (by kernel_rfl) rfl ?_
      refine wl_un (ug rfl rfl hb156) rfl ?_
      refine wl_nil (qe_held (listed' := #[true, true, true, true, true, true, true, true, true, true, true, true, true, false, false, false, false]) rfl ⟨⟨hS155.hasK (hS141.le.trans hS153.le), hS155.hasObj (.tail _ (.head _)), hS155.hasObj (.tail _ (.tail _ (.head _)))⟩, (fun _ => trivial), by decide⟩ ?_)
      refine wg_one (i := 13) (by kernel_rfl) rfl ?_
      refine wl_un (ug rfl rfl hb156) rfl ?_
      refine wl_nil (qe_held (listed' := #[true, true, true, true, true, true, true, true, true, true, true, true, true, true, false, false, false]) rfl ⟨⟨hS155.hasK (hS141.le.trans hS153.le), hS155.hasObj (.tail _ (.head _)), hS155.hasObj (.tail _ (.tail _ (.head _)))⟩, (fun _ => trivial), by decide⟩ ?_)
      refine wg_un (i := 14) (listed' := #[true, true, true, true, true, true, true, true, true, true, true, true, true, true, true, false, false]) rfl (by kernel_rfl) (pk_then (pk_then (pk_then pk_body))) (by kernel_rfl) rfl (by kernel_rfl) (by kernel_rfl) rfl ⟨⟨hS155.hasK (hS141.le.trans hS153.le), hS155.hasObj (.tail _ (.head _)), hS155.hasObj (.tail _ (.tail _ (.head _)))⟩, (fun _ => trivial), by decide⟩ (ug rfl rfl hb156) rfl ?_
      refine wg_val (i := 15) (listed' := #[true, true, true, true, true, true, true, true, true, true, true, true, true, true, true, true, false]) (fun _ => True) rfl (by kernel_rfl) (pk_then (pk_then (pk_then pk_body))) (by kernel_rfl) rfl (by kernel_rfl) (by kernel_rfl) rfl (.inl fun _ _ => trivial) ⟨⟨hS155.hasK (hS141.le.trans hS153.le), hS155.hasObj (.tail _ (.head _)), hS155.hasObj (.tail _ (.tail _ (.head _)))⟩, (fun _ => trivial), by decide⟩ wn rfl (fun _ _ => (rv_pick_f (v := .bool false) rfl hb156 rfl)) ?_
      refine wg_val (i := 16) (listed' := #[true, true, true, true, true, true, true, true, true, true, true, true, true, true, true, true, true]) (fun _ => True) rfl (by kernel_rfl) (pk_then (pk_then (pk_then pk_body))) (by kernel_rfl) rfl (by kernel_rfl) (by kernel_rfl) rfl (.inl fun _ _ => trivial) ⟨⟨hS155.hasK (hS141.le.trans hS153.le), hS155.hasObj (.tail _ (.head _)), hS155.hasObj (.tail _ (.tail _ (.head _)))⟩, (fun _ => trivial), by decide⟩ wn rfl (fun _ _ => (rv_assign rfl)) ?_
      refine wg_done (by kernel_rfl) ?_
      obtain rfl := oi h157
      have hS175 : SH _ _ _ _ _ [] := SH.sublist hS155 (.cons _ (.cons _ (.cons _ .slnil)))
      exact qe_mid' ⟨K151, rfl, hS175, (hS141.le.trans hS153.le)⟩ ⟨rfl, trivial⟩
    ·rintro _ w132 ⟨K130, rfl, hS133, hl131⟩
     refine qe_seq ?_
     refine rr ?_
     obtain rfl := oi h129
     exact qe_ret (vs := [_]) Tryz.results3 ⟨rfl, trivial⟩ ⟨K130, rfl, hS133⟩
   ·have h126 := cond_f hb125 h61
    refine wc_skip ?_
    refine qr ?_
    refine wl_val wn rfl (rv_assign (v := .int .i64 0) rfl) ?_
    refine nsr ?_
    refine wl_val wn rfl (rv_assign (v := .int .i64 0) rfl) ?_
    refine nq ?_
    obtain ⟨o176, h177, h178⟩ := ob h126
    refine wc_cutg (fun E' w' => ∃ (s179 : Int) (K180 : KMap), o176 = .inl s179 ∧ E' = [(7, .slice a53 n54 c55), (8, .int .i64 s179)] ∧ SH w K [] w' K180 [] ∧ KLe K62 K180 ∧ rng64 s179) ?_ ?_
    ·refine wc_block ?_
     obtain ⟨r186, h187, h188⟩ := ob h177
     refine wc_while' (fun (s185 : Int × Int) E' w' => ∃ (K189 : KMap), E' = [(3, .pointer (some ⟨g33, 0, none⟩)), (4, .pointer (some ⟨g37, 0, none⟩)), (5, sv r7.2.2.1), (6, sv r7.2.2.2), (7, .slice a53 n54 c55), (8, .int .i64 s185.1), (9, .int .i64 s185.2)] ∧ SH w K [] w' K189 [obj g33 [.slice a13 n14 c15, .slice a17 n18 c19] 26, obj g37 [.slice a21 n22 c23, .slice a25 n26 c27] 30] ∧ KLe K62 K189 ∧ rng64 s185.1 ∧ rng64 s185.2) h187 ⟨K62, rfl, hS65, (KLe.refl _), (by decide : rng64 0), (by decide : rng64 0)⟩ ⟨rfl, rfl, rfl, rfl, rfl, rfl, rfl, trivial⟩ ?_
     rintro s185 _ w191 r195 h196 hx197 ⟨K189, rfl, hS192, hl190, hr193, hr194⟩
     refine wc_seq ?_
     refine sr ?_
     refine vm rfl rfl ?_
     refine wl_val wn rfl (rv_fieldAddr ff30_0 rfl) ?_
     refine wl_val wn rfl (rv_loadm1 tf27 rfl (.tail _ (.head _)) hS192 rfl) ?_
     refine wl_val wn rfl (rv_len (t := tGDoc) Tryz.underlying27 rfl (SliceAt.mono ((hS52.le.trans hl63).trans hl190) hs24)) ?_
     refine wl_val wn rfl (rv_lss rfl rfl) ?_
     refine nq ?_
     refine wc_cond rfl (fun hb198 => ?_) (fun hb198 => ?_)
     ·have h199 := cond_t hb198 h196
      refine wc_skip ?_
      refine qs ?_
      refine wc_block ?_
      refine sr ?_
      refine wl_buildSlice0 tInt wn rfl Tryz.underlying37 tf3 hS192 ?_
      intro a200 w201 K202 hl203 hs204 hS205
      refine va rfl rfl ?_
      refine ns ?_
      refine wc_held (fun w' => Holds K202 w' ∧ HasObj g33 [.slice a13 n14 c15, .slice a17 n18 c19] w' ∧ HasObj g37 [.slice a21 n22 c23, .slice a25 n26 c27] w') (fun w' => True) 10 [] mixed ?_
      have hS207 := SH.drew hS205
      refine wg_val (i := 0) (listed' := #[true, false, false, false, false, false, false, false, false, false]) (HasObj g33 [.slice a13 n14 c15, .slice a17 n18 c19]) rfl (by kernel_rfl) (pk_then (pk_block (pk_then (pk_then (pk_block (pk_then (pk_then pk_body))))))) (by kernel_rfl) rfl (by kernel_rfl) (by kernel_rfl) rfl (.inl fun _ h => h.2.1) ⟨⟨hS207.hasK (KLe.refl _), hS207.hasObj (.tail _ (.head _)), hS207.hasObj (.tail _ (.tail _ (.head _)))⟩, (fun _ => trivial), by decide⟩ wn rfl (fun _ h => rh_loadmS (ds := [.slice a13 n14 c15, .slice a17 n18 c19]) tf26 rfl rfl rfl h) ?_
      refine wg_val (i := 1) (listed' := #[true, true, false, false, false, false, false, false, false, false]) (fun _ => True) rfl (by kernel_rfl) (pk_then (pk_block (pk_then (pk_then (pk_block (pk_then (pk_then pk_body))))))) (by kernel_rfl) rfl (by kernel_rfl) (by kernel_rfl) rfl (.inl fun _ _ => trivial) ⟨⟨hS207.hasK (KLe.refl _), hS207.hasObj (.tail _ (.head _)), hS207.hasObj (.tail _ (.tail _ (.head _)))⟩, (fun _ => trivial), by decide⟩ wn rfl (fun _ _ => (rv_fieldAddr ff30_0 rfl)) ?_
      refine wg_val (i := 2) (listed' := #[true, true, true, false, false, false, false, false, false, false]) (HasObj g37 [.slice a21 n22 c23, .slice a25 n26 c27]) rfl (by kernel_rfl) (pk_then (pk_block (pk_then (pk_then (pk_block (pk_then (pk_then pk_body))))))) (by kernel_rfl) rfl (by kernel_rfl) (by kernel_rfl) rfl (.inl fun _ h => h.2.2) ⟨⟨hS207.hasK (KLe.refl _), hS207.hasObj (.tail _ (.head _)), hS207.hasObj (.tail _ (.tail _ (.head _)))⟩, (fun _ => trivial), by decide⟩ wn rfl (fun _ h => rh_loadm1 tf27 rfl rfl h) ?_
      refine wg_val (i := 3) (listed' := #[true, true, true, true, false, false, false, false, false, false]) (fun _ => True) rfl (by kernel_rfl) (pk_then (pk_block (pk_then (pk_then (pk_block (pk_then (pk_then pk_body))))))) (by kernel_rfl) rfl (by kernel_rfl) (by kernel_rfl) rfl (.inl fun _ _ => trivial) ⟨⟨hS207.hasK (KLe.refl _), hS207.hasObj (.tail _ (.head _)), hS207.hasObj (.tail _ (.tail _ (.head _)))⟩, (fun _ => trivial), by decide⟩ wn rfl (fun _ _ => (rv_move rfl)) ?_
      obtain ⟨x208, hx209, h210⟩ := ob h199
      refine wg_indexAddr (t := tGDoc) (j := 4) (listed' := #[true, true, true, true, true, false, false, false, false, false]) rfl (by kernel_rfl) (pk_then (pk_block (pk_then (pk_then (pk_block (pk_then (pk_then pk_body))))))) (by kernel_rfl) rfl (by kernel_rfl) (by kernel_rfl) rfl ⟨⟨hS207.hasK (KLe.refl _), hS207.hasObj (.tail _ (.head _)), hS207.hasObj (.tail _ (.tail _ (.head _)))⟩, (fun _ => trivial), by decide⟩ wn rfl Tryz.underlying27 tf44 rfl rfl (SliceAt.mono (((hS52.le.trans hl63).trans hl190).trans hl203) hs24) hx209 ?_
      intro b211 o212 u213 hu214 ha215
      obtain ⟨a217, n218, c219, a221, n222, c223, rfl, hr216, hs220, hs224⟩ := hu214
      have ha225 : AtK _ b211 o212 [.int .i64 x208.Id, .slice a217 n218 c219, .slice a221 n222 c223] := ha215
      refine wg_val (i := 5) (listed' := #[true, true, true, true, true, true, false, false, false, false]) (Holds K202) rfl (by kernel_rfl) (pk_then (pk_block (pk_then (pk_then (pk_block (pk_then (pk_then pk_body))))))) (by kernel_rfl) rfl (by kernel_rfl) (by kernel_rfl) rfl (.inl fun _ h => h.1) ⟨⟨hS207.hasK (KLe.refl _), hS207.hasObj (.tail _ (.head _)), hS207.hasObj (.tail _ (.tail _ (.head _)))⟩, (fun _ => trivial), by decide⟩ wn rfl (fun _ h => rh_loadS (cs := [.int .i64 x208.Id, .slice a217 n218 c219, .slice a221 n222 c223]) tf44 rfl ha225 rfl h) ?_
      refine wg_val (i := 6) (listed' := #[true, true, true, true, true, true, true, false, false, false]) (fun _ => True) rfl (by kernel_rfl) (pk_then (pk_block (pk_then (pk_then (pk_block (pk_then (pk_then pk_body))))))) (by kernel_rfl) rfl (by kernel_rfl) (by kernel_rfl) rfl (.inl fun _ _ => trivial) ⟨⟨hS207.hasK (KLe.refl _), hS207.hasObj (.tail _ (.head _)), hS207.hasObj (.tail _ (.tail _ (.head _)))⟩, (fun _ => trivial), by decide⟩ wn rfl (fun _ _ => (rv_move rfl)) ?_
      refine wg_one (i := 7) (by kernel_rfl) rfl ?_
      obtain ⟨r226, hx227, h228⟩ := ob h210
      refine wl_call wn rfl (rt_call (vs := [.agg #[.int .i64 x208.Id, .slice a217 n218 c219, .slice a221 n222 c223], sv r7.2.2.1]) co16 rfl) ((ok_impl_DocField F) hS207.enter0 hr216 hs220 hs224 hl29 hx227) ?_
      rintro e233 w230 ⟨K229, rfl, hS231, hl232⟩
      refine ⟨_, rfl, ?_⟩
      have hS234 : SH _ _ _ _ _ [_, _, _] := SH.call0 hS207 hS231
      refine wl_nil (qe_held (listed' := #[true, true, true, true, true, true, true, true, false, false]) rfl ⟨⟨hS234.hasK hS231.le, hS234.hasObj (.tail _ (.head _)), hS234.hasObj (.tail _ (.tail _ (.head _)))⟩, (fun _ => trivial), by decide⟩ ?_)
      refine wg_one (i := 8) (by kernel_rfl) rfl ?_
      obtain ⟨r235, hx236, h237⟩ := ob h228
      refine wl_call wn rfl (rt_call (vs := [.agg #[.slice a13 n14 c15, .slice a17 n18 c19], sv r226]) co15 rfl) ((ok_impl_TermsOf F) hS234.enter0 (SliceAt.mono ((((hS52.le.trans hl63).trans hl190).trans hl203).trans hS231.le) hs16) (SliceAt.mono ((((hS52.le.trans hl63).trans hl190).trans hl203).trans hS231.le) hs20) hl232 hx236) ?_
      rintro e245 w239 ⟨a241, n242, c243, K238, rfl, hS240, hs244⟩
      refine ⟨_, rfl, ?_⟩
      have hS246 : SH _ _ _ _ _ [_, _, _, _] := SH.call0 hS234 hS240
      refine wl_nil (qe_held (listed' := #[true, true, true, true, true, true, true, true, true, false]) rfl ⟨⟨hS246.hasK (hS231.le.trans hS240.le), hS246.hasObj (.tail _ (.tail _ (.head _))), hS246.hasObj (.tail _ (.tail _ (.tail _ (.head _))))⟩, (fun _ => trivial), by decide⟩ ?_)
      refine wg_val (i := 9) (listed' := #[true, true, true, true, true, true, true, true, true, true]) (fun _ => True) rfl (by kernel_rfl) (pk_then (pk_block (pk_then (pk_then (pk_block (pk_then (pk_then pk_body))))))) (by kernel_rfl) rfl (by kernel_rfl) (by kernel_rfl) rfl (.inl fun _ _ => trivial) ⟨⟨hS246.hasK (hS231.le.trans hS240.le), hS246.hasObj (.tail _ (.tail _ (.head _))), hS246.hasObj (.tail _ (.tail _ (.tail _ (.head _))))⟩, (fun _ => trivial), by decide⟩ wn rfl (fun _ _ => (rv_assign rfl)) ?_
      refine wg_done (by kernel_rfl) ?_
      refine qs ?_
      refine sr ?_
      refine wl_val wn rfl (rv_assign (v := .int .i64 0) rfl) ?_
      refine nq ?_
      obtain ⟨o247, h248, h249⟩ := ob h237
      refine wc_cutg (fun E' w' => ∃ (a254 : Option Addr) (n255 c256 : Nat) (K250 : KMap), E' = [(3, .pointer (some ⟨g33, 0, none⟩)), (4, .pointer (some ⟨g37, 0, none⟩)), (5, sv r7.2.2.1), (6, sv r7.2.2.2), (7, .slice a53 n54 c55), (8, .int .i64 s185.1), (9, .int .i64 s185.2), (10, .slice a254 n255 c256)] ∧ SH w K [] w' K250 [obj g33 [.slice a13 n14 c15, .slice a17 n18 c19] 26, obj g37 [.slice a21 n22 c23, .slice a25 n26 c27] 30, tail (.slice a254 n255 c256) 3 1] ∧ KLe K238 K250 ∧ SliceAt tInt K250 a254 n255 c256 o247) ?_ ?_
      ·refine wc_block ?_
       obtain ⟨r259, h260, h261⟩ := ob h248
       have hS271 : SH _ _ _ _ _ [_, _, _, _] := SH.front (p := [_]) hS246
       have hS272 : SH _ _ _ _ _ [_, _, _, _] := SH.front (p := [_, _, _]) hS271
       have hS273 : SH _ _ _ _ _ [_, _, _, _] := SH.front (p := [_, _, _]) hS272
       have hS274 : SH _ _ _ _ _ [_, _, _] := SH.sublist hS273 (.cons_cons _ (.cons_cons _ (.cons_cons _ (.cons _ .slnil))))
       refine wc_while' (fun (s258 : (List Int) × Int) E' w' => ∃ (a266 : Option Addr) (n267 c268 : Nat) (K262 : KMap), E' = [(3, .pointer (some ⟨g33, 0, none⟩)), (4, .pointer (some ⟨g37, 0, none⟩)), (5, sv r7.2.2.1), (6, sv r7.2.2.2), (7, .slice a53 n54 c55), (8, .int .i64 s185.1), (9, .int .i64 s185.2), (10, .slice a266 n267 c268), (11, .slice a241 n242 c243), (12, .int .i64 s258.2)] ∧ SH w K [] w' K262 [obj g33 [.slice a13 n14 c15, .slice a17 n18 c19] 26, obj g37 [.slice a21 n22 c23, .slice a25 n26 c27] 30, tail (.slice a266 n267 c268) 3 1] ∧ KLe K238 K262 ∧ SliceAt tInt K262 a266 n267 c268 s258.1 ∧ rng64 s258.2) h260 ⟨a200, 0, 0, K238, rfl, hS274, (KLe.refl _), (SliceAt.mono (hS231.le.trans hS240.le) hs204), (by decide : rng64 0)⟩ ⟨rfl, rfl, rfl, rfl, rfl, rfl, rfl, rfl, rfl, rfl, trivial⟩ ?_
       rintro s258 _ w264 r275 h276 hx277 ⟨a266, n267, c268, K262, rfl, hS265, hl263, hs269, hr270⟩
       refine wc_seq ?_
       refine sr ?_
       refine vm rfl rfl ?_
       refine vm rfl rfl ?_
       refine wl_val wn rfl (rv_len (t := tGTerm) Tryz.underlying38 rfl (SliceAt.mono hl263 hs244)) ?_
       refine wl_val wn rfl (rv_lss rfl rfl) ?_
       refine nq ?_
       refine wc_cond rfl (fun hb278 => ?_) (fun hb278 => ?_)
       ·have h279 := cond_t hb278 h276
        refine wc_skip ?_
        refine qs ?_
        refine wc_block ?_
        refine sr ?_
        refine vm rfl rfl ?_
        refine vm rfl rfl ?_
        obtain ⟨x280, hx281, h282⟩ := ob h279
        refine wl_indexAddr (t := tGTerm) wn rfl Tryz.underlying38 tf46 rfl rfl (SliceAt.mono hl263 hs244) hx281 ?_
        intro b283 o284 u285 hu286 ha287
        obtain ⟨rfl, hl288, hr289⟩ := hu286
        have ha290 : AtK _ b283 o284 [sv x280.Text, .int .i64 x280.At] := ha287
        refine wl_val wn rfl (rv_fieldAddr ff46_0 rfl) ?_
        refine wl_val wn rfl (rv_load1 tf9 rfl hS265 (ha290 0 _ rfl)) ?_
        refine vm rfl rfl ?_
        refine wl_val wn rfl (rv_seql rfl rfl) ?_
        refine nq ?_
        refine wc_cond rfl (fun hb291 => ?_) (fun hb291 => ?_)
        ·have h292 := cond_t hb291 h282
         refine wc_region ?_
         refine vm rfl rfl ?_
         refine vm rfl rfl ?_
         refine vm rfl rfl ?_
         obtain ⟨x293, hx294, h295⟩ := ob h292
         refine wl_indexAddr (t := tGTerm) wn rfl Tryz.underlying38 tf46 rfl rfl (SliceAt.mono hl263 hs244) hx294 ?_
         intro b296 o297 u298 hu299 ha300
         obtain ⟨rfl, hl301, hr302⟩ := hu299
         have ha303 : AtK _ b296 o297 [sv x293.Text, .int .i64 x293.At] := ha300
         refine wl_val wn rfl (rv_fieldAddr ff46_1 rfl) ?_
         refine wl_val wn rfl (rv_load1 tf3 rfl hS265 (ha303 1 _ rfl)) ?_
         refine wl_buildSlice (t := tInt) (n := 1) (pv := [(0, .int .i64 x293.At)]) (cs := [.int .i64 x293.At]) (xs := [x293.At]) wn rfl Tryz.underlying37 tf3 rfl rfl rfl (by kernel_rfl) rfl rfl (lit_cons (u := .int .i64 x293.At) (z := x293.At) ⟨rfl, hr302⟩ lit_nil) hS265 ?_
         intro a304 w305 K306 hl307 hs308 hS309
         have hS310 : SH _ _ _ _ _ [_, _, _, _] := SH.front (p := [_, _, _]) hS309
         obtain ⟨x311, hx312, h313⟩ := ob h295
         refine wl_append (t := tInt) wn rfl Tryz.underlying37 tf3 rfl rfl rfl rfl rfl (SliceAt.mono hl307 hs269) hs308 hx312 hS310 ?_
         intro a314 n315 c316 w317 K318 hl319 hs320 hS321
         refine va rfl rfl ?_
         refine nb ?_
         refine qe_seq ?_
         refine wc_region ?_
         refine vm rfl rfl ?_
         refine wl_val wn rfl (rv_add rfl rfl) ?_
         refine va rfl rfl ?_
         refine wl_nil ?_
         obtain rfl := oi h313
         have hS322 : SH _ _ _ _ _ [_, _, _, _] := SH.front (p := [_, _, _]) hS321
         have hS323 : SH _ _ _ _ _ [_, _, _, _] := SH.front (p := [_, _, _]) hS322
         have hS324 : SH _ _ _ _ _ [_, _, _] := SH.sublist hS323 (.cons_cons _ (.cons_cons _ (.cons_cons _ (.cons _ .slnil))))
         exact qe_mid' ⟨_, rfl, a314, n315, c316, K318, rfl, hS324, ((hl263.trans hl307).trans hl319), hs320, (w64_rng _)⟩ ⟨rfl, rfl, rfl, rfl, rfl, rfl, rfl, rfl, rfl, rfl, trivial⟩
        ·have h292 := cond_f hb291 h282
         refine wc_skip ?_
         refine qe_block ?_
         refine qe_seq ?_
         refine wc_region ?_
         refine vm rfl rfl ?_
         refine wl_val wn rfl (rv_add rfl rfl) ?_
         refine va rfl rfl ?_
         refine wl_nil ?_
         obtain rfl := oi h292
         exact qe_mid' ⟨_, rfl, a266, n267, c268, K262, rfl, hS265, hl263, hs269, (w64_rng _)⟩ ⟨rfl, rfl, rfl, rfl, rfl, rfl, rfl, rfl, rfl, rfl, trivial⟩
       ·have h279 := cond_f hb278 h276
        refine wc_exit ?_
        refine qe_then_exit ?_
        refine qe_then_exit ?_
        obtain rfl := oi h279
        have e325 := hx277 _ rfl
        subst e325
        refine qe_block_eq ?_
        obtain rfl := oi h261
        exact qe_mid' ⟨a266, n267, c268, K262, rfl, hS265, hl263, hs269⟩ ⟨rfl, rfl, rfl, rfl, rfl, rfl, rfl, rfl, trivial⟩
      ·rintro _ w252 ⟨a254, n255, c256, K250, rfl, hS253, hl251, hs257⟩
       refine qs ?_
       refine wc_seq ?_
       obtain ⟨o326, h327, h328⟩ := ob h249
       refine wc_cutg (fun E' w' => ∃ (K329 : KMap), E' = [(3, .pointer (some ⟨g33, 0, none⟩)), (4, .pointer (some ⟨g37, 0, none⟩)), (5, sv r7.2.2.1), (6, sv r7.2.2.2), (7, .slice a53 n54 c55), (8, .int .i64 s185.1), (9, .int .i64 s185.2), (10, .slice a254 n255 c256), (137, .bool o326)] ∧ SH w K [] w' K329 [obj g33 [.slice a13 n14 c15, .slice a17 n18 c19] 26, obj g37 [.slice a21 n22 c23, .slice a25 n26 c27] 30, tail (.slice a254 n255 c256) 3 1] ∧ KLe K250 K329) ?_ ?_
       ·refine wc_quiet mixed (by kernel_rfl) hS253 ?_
        refine qm rfl rfl ?_
        refine wq_val wn rfl (fun _ _ => (rv_len (t := tInt) Tryz.underlying37 rfl hs257)) ?_
        refine wq_val wn rfl (fun _ _ => (rv_gtr rfl rfl)) ?_
        refine qm rfl rfl ?_
        rcases bool_tf (decide ((0 : Int) < (o247.length : Int))) with hb333 | hb333
        ·have h334 := cond_t hb333 h327
         refine wq_val (wg rfl rfl hb333) rfl (fun _ _ => (rv_move rfl)) ?_
         refine wq_val (wg rfl rfl hb333) rfl (fun _ _ => (rv_move rfl)) ?_
         refine wq_val (wg rfl rfl hb333) rfl (fun _ _ => (rv_len (t := tGPost) Tryz.underlying33 rfl (SliceAt.mono (((((hl63.trans hl190).trans hl203).trans hS231.le).trans hS240.le).trans hl251) hs56))) ?_
         refine wq_val (wg rfl rfl hb333) rfl (fun _ _ => (rv_geq rfl rfl)) ?_
         refine wq_val (wg rfl rfl hb333) rfl (fun _ _ => (rv_move rfl)) ?_
         rcases bool_tf (decide ((r47.length : Int) ≤ s185.1)) with hb335 | hb335
         ·have h336 := cond_t hb335 h334
          refine wq_un (ug rfl rfl hb335) rfl ?_
          refine wq_un (ug rfl rfl hb335) rfl ?_
          refine wq_un (ug rfl rfl hb335) rfl ?_
          refine wq_un (ug rfl rfl hb335) rfl ?_
          refine wq_un (ug rfl rfl hb335) rfl ?_
          refine wq_un (ug rfl rfl hb335) rfl ?_
          refine wq_un (ug rfl rfl hb335) rfl ?_
          refine wq_un (ug rfl rfl hb335) rfl ?_
          refine wq_un (ug rfl rfl hb335) rfl ?_
          refine wq_un (ug rfl rfl hb335) rfl ?_
          refine wq_un (ug rfl rfl hb335) rfl ?_
          refine wq_un (ug rfl rfl hb335) rfl ?_
          refine wq_val (wg rfl rfl hb333) rfl (fun _ _ => (rv_pick_t (v := .bool true) rfl hb335 rfl)) ?_
          refine wq_val (wg rfl rfl hb333) rfl (fun _ _ => (rv_move rfl)) ?_
          refine qv rfl rfl rfl rfl ?_
          refine qv rfl rfl rfl rfl ?_
          refine qv rfl rfl rfl rfl ?_
          refine qv rfl rfl rfl rfl ?_
          refine qv rfl rfl rfl rfl ?_
          refine qv rfl rfl rfl rfl ?_
          refine qv rfl rfl rfl rfl ?_
          refine qv rfl rfl rfl rfl ?_
          refine wq_val (wg rfl rfl hb333) rfl (fun _ _ => (rv_pick_t (v := .bool true) rfl rfl rfl)) ?_
          refine wq_val wn rfl (fun _ _ => (rv_pick_t rfl hb333 rfl)) ?_
          refine wq_nil ?_
          rintro w338 ⟨K337, hS339, hl340⟩
          obtain rfl := oi h336
          exact qe_mid' ⟨K337, rfl, hS339, hl340⟩ ⟨rfl, rfl, rfl, rfl, rfl, rfl, rfl, rfl, rfl, trivial⟩
         ·have h336 := cond_f hb335 h334
          refine wq_val (wg rfl rfl hb335) rfl (fun _ _ => (rv_move rfl)) ?_
          refine wq_val (wg rfl rfl hb335) rfl (fun _ _ => (rv_move rfl)) ?_
          obtain ⟨x341, hx342, h343⟩ := ob h336
          refine wq_indexAddr (t := tGPost) (wg rfl rfl hb335) rfl Tryz.underlying33 tf48 rfl rfl (SliceAt.mono (((((hl63.trans hl190).trans hl203).trans hS231.le).trans hS240.le).trans hl251) hs56) hx342 ?_
          intro b344 o345 u346 hu347 ha348
          obtain ⟨a350, n351, c352, rfl, hr349, hs353⟩ := hu347
          have ha354 : AtK _ b344 o345 [.int .i64 x341.Doc, .slice a350 n351 c352] := ha348
          refine wq_val (wg rfl rfl hb335) rfl (fun _ _ => (rv_fieldAddr ff48_0 rfl)) ?_
          refine wq_val (wg rfl rfl hb335) rfl (rq_load1 tf3 rfl (ha354 0 _ rfl)) ?_
          refine wq_val (wg rfl rfl hb335) rfl (fun _ _ => (rv_fieldAddr ff30_0 rfl)) ?_
          refine wq_val (wg rfl rfl hb335) rfl (rq_loadm1 tf27 rfl (.tail _ (.head _)) rfl) ?_
          refine wq_val (wg rfl rfl hb335) rfl (fun _ _ => (rv_move rfl)) ?_
          obtain ⟨x355, hx356, h357⟩ := ob h343
          refine wq_indexAddr (t := tGDoc) (wg rfl rfl hb335) rfl Tryz.underlying27 tf44 rfl rfl (SliceAt.mono ((((((hS52.le.trans hl63).trans hl190).trans hl203).trans hS231.le).trans hS240.le).trans hl251) hs24) hx356 ?_
          intro b358 o359 u360 hu361 ha362
          obtain ⟨a364, n365, c366, a368, n369, c370, rfl, hr363, hs367, hs371⟩ := hu361
          have ha372 : AtK _ b358 o359 [.int .i64 x355.Id, .slice a364 n365 c366, .slice a368 n369 c370] := ha362
          refine wq_val (wg rfl rfl hb335) rfl (fun _ _ => (rv_fieldAddr ff44_0 rfl)) ?_
          refine wq_val (wg rfl rfl hb335) rfl (rq_load1 tf3 rfl (ha372 0 _ rfl)) ?_
          refine wq_val (wg rfl rfl hb335) rfl (fun _ _ => (rv_neq rfl rfl)) ?_
          refine wq_val (wg rfl rfl hb333) rfl (fun _ _ => (rv_pick_f rfl hb335 rfl)) ?_
          refine wq_val (wg rfl rfl hb333) rfl (fun _ _ => (rv_move rfl)) ?_
          rcases bool_tf ((!(x341.Doc == x355.Id))) with hb373 | hb373
          ·have h374 := cond_t hb373 h357
           refine wq_un (ug rfl rfl hb373) rfl ?_
           refine wq_un (ug rfl rfl hb373) rfl ?_
           refine wq_un (ug rfl rfl hb373) rfl ?_
           refine wq_un (ug rfl rfl hb373) rfl ?_
           refine wq_un (ug rfl rfl hb373) rfl ?_
           refine wq_un (ug rfl rfl hb373) rfl ?_
           refine wq_un (ug rfl rfl hb373) rfl ?_
           refine wq_un (ug rfl rfl hb373) rfl ?_
           refine wq_val (wg rfl rfl hb333) rfl (fun _ _ => (rv_pick_t (v := .bool true) rfl hb373 rfl)) ?_
           refine wq_val wn rfl (fun _ _ => (rv_pick_t rfl hb333 rfl)) ?_
           refine wq_nil ?_
           rintro w376 ⟨K375, hS377, hl378⟩
           obtain rfl := oi h374
           exact qe_mid' ⟨K375, rfl, hS377, hl378⟩ ⟨rfl, rfl, rfl, rfl, rfl, rfl, rfl, rfl, rfl, trivial⟩
          ·have h374 := cond_f hb373 h357
           refine wq_val (wg rfl rfl hb373) rfl (fun _ _ => (rv_move rfl)) ?_
           refine wq_val (wg rfl rfl hb373) rfl (fun _ _ => (rv_move rfl)) ?_
           obtain ⟨x379, hx380, h381⟩ := ob h374
           refine wq_indexAddr (t := tGPost) (wg rfl rfl hb373) rfl Tryz.underlying33 tf48 rfl rfl (SliceAt.mono (((((hl63.trans hl190).trans hl203).trans hS231.le).trans hS240.le).trans hl251) hs56) hx380 ?_
           intro b382 o383 u384 hu385 ha386
           obtain ⟨a388, n389, c390, rfl, hr387, hs391⟩ := hu385
           have ha392 : AtK _ b382 o383 [.int .i64 x379.Doc, .slice a388 n389 c390] := ha386
           refine wq_val (wg rfl rfl hb373) rfl (fun _ _ => (rv_fieldAddr ff48_1 rfl)) ?_
           refine wq_val (wg rfl rfl hb373) rfl (rq_load1 tf37 rfl (ha392 1 _ rfl)) ?_
           refine wq_val (wg rfl rfl hb373) rfl (fun _ _ => (rv_move rfl)) ?_
           obtain ⟨r393, hx394, h395⟩ := ob h381
           refine wq_call (v := .bool r393) (wg rfl rfl hb373) rfl (fun _ => rt_call (vs := [.slice a388 n389 c390, .slice a254 n255 c256]) co17 rfl) (fun w398 ⟨K396, hS397, hl399⟩ => ((ok_laws_foInts F) hS397.enter0 (SliceAt.mono hl399 hs391) (SliceAt.mono hl399 hs257) hx394).mono fun e w' ⟨K', he, hS'⟩ => ⟨he, K', hS397.call0 hS', hl399.trans hS'.le⟩) ?_
           refine wq_val (wg rfl rfl hb373) rfl (fun _ _ => (rv_not rfl)) ?_
           refine wq_val (wg rfl rfl hb333) rfl (fun _ _ => (rv_pick_f rfl hb373 rfl)) ?_
           refine wq_val wn rfl (fun _ _ => (rv_pick_t rfl hb333 rfl)) ?_
           refine wq_nil ?_
           rintro w401 ⟨K400, hS402, hl403⟩
           obtain rfl := oi h395
           exact qe_mid' ⟨K400, rfl, hS402, hl403⟩ ⟨rfl, rfl, rfl, rfl, rfl, rfl, rfl, rfl, rfl, trivial⟩
        ·have h334 := cond_f hb333 h327
         refine wq_un (ug rfl rfl hb333) rfl ?_
         refine wq_un (ug rfl rfl hb333) rfl ?_
         refine wq_un (ug rfl rfl hb333) rfl ?_
         refine wq_un (ug rfl rfl hb333) rfl ?_
         refine wq_un (ug rfl rfl hb333) rfl ?_
         refine qu rfl rfl rfl ?_
         refine qu rfl rfl rfl ?_
         refine qu rfl rfl rfl ?_
         refine qu rfl rfl rfl ?_
         refine qu rfl rfl rfl ?_
         refine qu rfl rfl rfl ?_
         refine qu rfl rfl rfl ?_
         refine qu rfl rfl rfl ?_
         refine qu rfl rfl rfl ?_
         refine qu rfl rfl rfl ?_
         refine qu rfl rfl rfl ?_
         refine qu rfl rfl rfl ?_
         refine wq_un (ug rfl rfl hb333) rfl ?_
         refine wq_un (ug rfl rfl hb333) rfl ?_
         refine qu rfl rfl rfl ?_
         refine qu rfl rfl rfl ?_
         refine qu rfl rfl rfl ?_
         refine qu rfl rfl rfl ?_
         refine qu rfl rfl rfl ?_
         refine qu rfl rfl rfl ?_
         refine qu rfl rfl rfl ?_
         refine qu rfl rfl rfl ?_
         refine wq_un (ug rfl rfl hb333) rfl ?_
         refine wq_val wn rfl (fun _ _ => (rv_pick_f (v := .bool false) rfl hb333 rfl)) ?_
         refine wq_nil ?_
         rintro w405 ⟨K404, hS406, hl407⟩
         obtain rfl := oi h334
         exact qe_mid' ⟨K404, rfl, hS406, hl407⟩ ⟨rfl, rfl, rfl, rfl, rfl, rfl, rfl, rfl, rfl, trivial⟩
       ·rintro _ w331 ⟨K329, rfl, hS332, hl330⟩
        refine qe_seq ?_
        refine wc_cond rfl (fun hb408 => ?_) (fun hb408 => ?_)
        ·have h409 := cond_t hb408 h328
         refine sr ?_
         refine wl_val wn rfl (rv_assign (v := .bool false) rfl) ?_
         refine nq ?_
         refine rr ?_
         refine qe_block_ret ?_
         refine qe_then_ret ?_
         refine qe_then_ret ?_
         obtain rfl := oi h409
         have e410 := hx197 _ rfl
         subst e410
         refine qe_block_ret ?_
         refine qe_then_ret ?_
         obtain rfl := oi h188
         refine qe_then_ret ?_
         obtain rfl := oi h178
         have hS411 : SH _ _ _ _ _ [] := SH.sublist hS332 (.cons _ (.cons _ (.cons _ .slnil)))
         exact qe_ret (vs := [_]) Tryz.results3 ⟨rfl, trivial⟩ ⟨K329, rfl, hS411⟩
        ·have h409 := cond_f hb408 h328
         refine wc_skip ?_
         refine qr ?_
         refine vm rfl rfl ?_
         refine wl_val wn rfl (rv_len (t := tInt) Tryz.underlying37 rfl (SliceAt.mono hl330 hs257)) ?_
         refine wl_val wn rfl (rv_gtr rfl rfl) ?_
         refine nq ?_
         refine wc_cond rfl (fun hb412 => ?_) (fun hb412 => ?_)
         ·have h413 := cond_t hb412 h409
          refine wc_region ?_
          refine vm rfl rfl ?_
          refine wl_val wn rfl (rv_add rfl rfl) ?_
          refine va rfl rfl ?_
          refine nb ?_
          refine qe_seq ?_
          refine wc_region ?_
          refine vm rfl rfl ?_
          refine wl_val wn rfl (rv_add rfl rfl) ?_
          refine va rfl rfl ?_
          refine wl_nil ?_
          obtain rfl := oi h413
          have hS414 : SH _ _ _ _ _ [_, _] := SH.sublist hS332 (.cons_cons _ (.cons_cons _ (.cons _ .slnil)))
          exact qe_mid' ⟨_, rfl, K329, rfl, hS414, (((((hl190.trans hl203).trans hS231.le).trans hS240.le).trans hl251).trans hl330), (w64_rng _), (w64_rng _)⟩ ⟨rfl, rfl, rfl, rfl, rfl, rfl, rfl, trivial⟩
         ·have h413 := cond_f hb412 h409
          refine wc_skip ?_
          refine qe_block ?_
          refine qe_seq ?_
          refine wc_region ?_
          refine vm rfl rfl ?_
          refine wl_val wn rfl (rv_add rfl rfl) ?_
          refine va rfl rfl ?_
          refine wl_nil ?_
          obtain rfl := oi h413
          have hS415 : SH _ _ _ _ _ [_, _] := SH.sublist hS332 (.cons_cons _ (.cons_cons _ (.cons _ .slnil)))
          exact qe_mid' ⟨_, rfl, K329, rfl, hS415, (((((hl190.trans hl203).trans hS231.le).trans hS240.le).trans hl251).trans hl330), hr193, (w64_rng _)⟩ ⟨rfl, rfl, rfl, rfl, rfl, rfl, rfl, trivial⟩
     ·have h199 := cond_f hb198 h196
      refine wc_exit ?_
      refine qe_then_exit ?_
      refine qe_then_exit ?_
      obtain rfl := oi h199
      have e416 := hx197 _ rfl
      subst e416
      refine qe_block_eq ?_
      obtain rfl := oi h188
      have hS417 : SH _ _ _ _ _ [] := SH.sublist hS192 (.cons _ (.cons _ .slnil))
      exact qe_mid' ⟨_, K189, rfl, rfl, hS417, hl190, hr193⟩ ⟨rfl, rfl, trivial⟩
    ·rintro _ w182 ⟨s179, K180, rfl, rfl, hS183, hl181, hr184⟩
     refine qr ?_
     refine vm rfl rfl ?_
     refine vm rfl rfl ?_
     refine wl_val wn rfl (rv_len (t := tGPost) Tryz.underlying33 rfl (SliceAt.mono (hl63.trans hl181) hs56)) ?_
     refine wl_val wn rfl (rv_eql rfl rfl) ?_
     refine va rfl rfl ?_
     refine nq ?_
     refine wc_ret ?_
     obtain rfl := oi h178
     exact qe_ret (vs := [_]) Tryz.results3 ⟨rfl, trivial⟩ ⟨K180, rfl, hS183⟩
end Go.Proofs.YtdcmmhjhffcnhaaGreat
