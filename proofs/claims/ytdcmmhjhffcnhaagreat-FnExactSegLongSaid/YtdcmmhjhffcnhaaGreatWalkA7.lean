/-
 Walks of the functions. Printed by gen.py.
-/
import Derived.Test.YtdcmmhjhffcnhaaGreatWalkA6
set_option linter.unusedVariables false
set_option maxRecDepth 100000
namespace Go.Proofs.YtdcmmhjhffcnhaaGreat
open Go Go.Fk Go.RowKit

theorem ok_impl_Seg_long (F : Nat) {w : World} {K : KMap} {g1 : Nat} {a2 : Option Addr} {n3 c4 : Nat} {a6 : Option Addr} {n7 c8 : Nat} {a10 : Option Addr} {n11 c12 : Nat} {a14 : Option Addr} {n15 c16 : Nat} {p0_s : GSeg} {p1_c : GConf} {p2_field : Str} {p3_id : Int} {r : Int} (hS : SH w K (List.flatMap Item.gs [obj g1 [.slice a2 n3 c4, .slice a6 n7 c8] 30]) w K [obj g1 [.slice a2 n3 c4, .slice a6 n7 c8] 30]) (hs5 : SliceAt tGDoc K a2 n3 c4 p0_s.Docs) (hs9 : SliceAt tGEntry K a6 n7 c8 p0_s.Entries) (hs13 : SliceAt tStr K a10 n11 c12 p1_c.Stops) (hs17 : SliceAt tGSyn K a14 n15 c16 p1_c.Syns) (hl18 : p2_field.length ≤ maxLen) (hr19 : rng64 p3_id) (hm : M.impl_Seg_long F p0_s p1_c p2_field p3_id = some r) :
  Calls Tryz.prog 88 #[.pointer (some ⟨g1, 0, none⟩), .agg #[.slice a10 n11 c12, .slice a14 n15 c16], sv p2_field, .int .i64 p3_id] w fun e w' => ∃ (K' : KMap), e = .returned (.int .i64 r) ∧ SH w K (List.flatMap Item.gs [obj g1 [.slice a2 n3 c4, .slice a6 n7 c8] 30]) w' K' [obj g1 [.slice a2 n3 c4, .slice a6 n7 c8] 30] ∧ rng64 r := by
 rw [M.impl_Seg_long] at hm
 refine calls_in Tryz.func88 rfl Tryz.ntmps88 rfl ?_
 refine sr ?_
 refine wl_box wn rfl rfl hS ?_
 intro g20 w21 hS22
 have hS23 : SH _ _ _ _ _ [obj g20 [.slice a10 n11 c12, .slice a14 n15 c16] 26, _] := hS22
 refine wl_val wn rfl (rv_assign (v := .int .i64 0) rfl) ?_
 refine nr ?_
 refine vm rfl rfl ?_
 refine vm rfl rfl ?_
 obtain ⟨r24, hx25, h26⟩ := ob hm
 have hS27 : SH _ _ _ _ _ [_, _] := SH.front (p := [_]) hS23
 refine wl_call wn rfl (rt_call (vs := [.pointer (some ⟨g1, 0, none⟩), .int .i64 p3_id]) co135 rfl) ((ok_impl_Seg_doc F) (SH.enter (Lin := [_]) hS27) hs5 hs9 hr19 hx25) ?_
 rintro e40 w29 ⟨a32, n33, c34, a36, n37, c38, K28, rfl, hS30, hr31, hs35, hs39⟩
 refine ⟨_, rfl, ?_⟩
 have hS41 : SH _ _ _ _ _ [_, _] := SH.call (Lin := [_]) hS27 hS30
 refine vm rfl rfl ?_
 refine wl_val wn rfl (rv_extract rfl rfl) ?_
 refine wl_val wn rfl (rv_extract rfl rfl) ?_
 refine wl_alloc wn rfl tf44 hS41 ?_
 intro g42 w43 hS44
 have hS45 : SH _ _ _ _ _ [obj g42 [.int .i64 0, .slice none 0 0, .slice none 0 0] 44, _, _] := hS44
 refine wl_store (cs' := [.int .i64 r24.1.Id, .slice a32 n33 c34, .slice a36 n37 c38]) (v := .agg #[.int .i64 r24.1.Id, .slice a32 n33 c34, .slice a36 n37 c38]) wn tf44 rfl rfl rfl (by simp [Value.cells, Value.oneCell']) hS45 rfl rfl ?_
 intro w46 hS47
 refine va rfl rfl ?_
 refine nsr ?_
 refine vm rfl rfl ?_
 refine wl_val wn rfl (rv_not rfl) ?_
 refine nq ?_
 refine wc_cond rfl (fun hb48 => ?_) (fun hb48 => ?_)
 ·have h49 := cond_t hb48 h26
  refine sr ?_
  refine wl_val wn rfl (rv_assign (v := .int .i64 0) rfl) ?_
  refine nq ?_
  refine rr ?_
  obtain rfl := oi h49
  have hS50 : SH _ _ _ _ _ [_] := SH.sublist hS47 (.cons _ (.cons_cons _ (.cons _ .slnil)))
  exact qe_ret (vs := [_]) Tryz.results88 ⟨rfl, trivial⟩ ⟨K28, rfl, hS50, (by decide : rng64 0)⟩
 ·have h49 := cond_f hb48 h26
  refine wc_skip ?_
  refine qs ?_
  refine wc_held (fun w' => Holds K28 w' ∧ HasObj g20 [.slice a10 n11 c12, .slice a14 n15 c16] w' ∧ HasObj g42 [.int .i64 r24.1.Id, .slice a32 n33 c34, .slice a36 n37 c38] w') (fun w' => True) 7 [] mixed ?_
  have hS52 := SH.drew hS47
  refine wg_val (i := 0) (listed' := #[true, false, false, false, false, false, false]) (HasObj g20 [.slice a10 n11 c12, .slice a14 n15 c16]) rfl (by kernel_rfl) (pk_then pk_body) (by kernel_rfl) rfl (by kernel_rfl) (by kernel_rfl) rfl (.inl fun _ h => h.2.1) ⟨⟨hS52.hasK (KLe.refl _), hS52.hasObj (.tail _ (.tail _ (.head _))), hS52.hasObj (.head _)⟩, (fun _ => trivial), by decide⟩ wn rfl (fun _ h => rh_loadmS (ds := [.slice a10 n11 c12, .slice a14 n15 c16]) tf26 rfl rfl rfl h) ?_
  refine wg_val (i := 1) (listed' := #[true, true, false, false, false, false, false]) (HasObj g42 [.int .i64 r24.1.Id, .slice a32 n33 c34, .slice a36 n37 c38]) rfl (by kernel_rfl) (pk_then pk_body) (by kernel_rfl) rfl (by kernel_rfl) (by kernel_rfl) rfl (.inl fun _ h => h.2.2) ⟨⟨hS52.hasK (KLe.refl _), hS52.hasObj (.tail _ (.tail _ (.head _))), hS52.hasObj (.head _)⟩, (fun _ => trivial), by decide⟩ wn rfl (fun _ h => rh_loadmS (ds := [.int .i64 r24.1.Id, .slice a32 n33 c34, .slice a36 n37 c38]) tf44 rfl rfl rfl h) ?_
  refine wg_val (i := 2) (listed' := #[true, true, true, false, false, false, false]) (fun _ => True) rfl (by kernel_rfl) (pk_then pk_body) (by kernel_rfl) rfl (by kernel_rfl) (by kernel_rfl) rfl (.inl fun _ _ => trivial) ⟨⟨hS52.hasK (KLe.refl _), hS52.hasObj (.tail _ (.tail _ (.head _))), hS52.hasObj (.head _)⟩, (fun _ => trivial), by decide⟩ wn rfl (fun _ _ => (rv_move rfl)) ?_
  refine wg_one (i := 3) (by kernel_rfl) rfl ?_
  obtain ⟨r53, hx54, h55⟩ := ob h49
  refine wl_call wn rfl (rt_call (vs := [.agg #[.int .i64 r24.1.Id, .slice a32 n33 c34, .slice a36 n37 c38], sv p2_field]) co16 rfl) ((ok_impl_DocField F) hS52.enter0 hr31 hs35 hs39 hl18 hx54) ?_
  rintro e60 w57 ⟨K56, rfl, hS58, hl59⟩
  refine ⟨_, rfl, ?_⟩
  have hS61 : SH _ _ _ _ _ [_, _, _] := SH.call0 hS52 hS58
  refine wl_nil (qe_held (listed' := #[true, true, true, true, false, false, false]) rfl ⟨⟨hS61.hasK hS58.le, hS61.hasObj (.tail _ (.tail _ (.head _))), hS61.hasObj (.head _)⟩, (fun _ => trivial), by decide⟩ ?_)
  refine wg_one (i := 4) (by kernel_rfl) rfl ?_
  obtain ⟨r62, hx63, h64⟩ := ob h55
  refine wl_call wn rfl (rt_call (vs := [.agg #[.slice a10 n11 c12, .slice a14 n15 c16], sv r53]) co15 rfl) ((ok_impl_TermsOf F) hS61.enter0 (SliceAt.mono (hS30.le.trans hS58.le) hs13) (SliceAt.mono (hS30.le.trans hS58.le) hs17) hl59 hx63) ?_
  rintro e72 w66 ⟨a68, n69, c70, K65, rfl, hS67, hs71⟩
  refine ⟨_, rfl, ?_⟩
  have hS73 : SH _ _ _ _ _ [_, _, _, _] := SH.call0 hS61 hS67
  refine wl_nil (qe_held (listed' := #[true, true, true, true, true, false, false]) rfl ⟨⟨hS73.hasK (hS58.le.trans hS67.le), hS73.hasObj (.tail _ (.tail _ (.tail _ (.head _)))), hS73.hasObj (.tail _ (.head _))⟩, (fun _ => trivial), by decide⟩ ?_)
  refine wg_val (i := 5) (listed' := #[true, true, true, true, true, true, false]) (fun _ => True) rfl (by kernel_rfl) (pk_then pk_body) (by kernel_rfl) rfl (by kernel_rfl) (by kernel_rfl) rfl (.inl fun _ _ => trivial) ⟨⟨hS73.hasK (hS58.le.trans hS67.le), hS73.hasObj (.tail _ (.tail _ (.tail _ (.head _)))), hS73.hasObj (.tail _ (.head _))⟩, (fun _ => trivial), by decide⟩ wn rfl (fun _ _ => (rv_len (t := tGTerm) Tryz.underlying38 rfl hs71)) ?_
  refine wg_val (i := 6) (listed' := #[true, true, true, true, true, true, true]) (fun _ => True) rfl (by kernel_rfl) (pk_then pk_body) (by kernel_rfl) rfl (by kernel_rfl) (by kernel_rfl) rfl (.inl fun _ _ => trivial) ⟨⟨hS73.hasK (hS58.le.trans hS67.le), hS73.hasObj (.tail _ (.tail _ (.tail _ (.head _)))), hS73.hasObj (.tail _ (.head _))⟩, (fun _ => trivial), by decide⟩ wn rfl (fun _ _ => (rv_assign rfl)) ?_
  refine wg_done (by kernel_rfl) ?_
  refine qe_seq ?_
  refine wc_ret ?_
  obtain rfl := oi h64
  have hS74 : SH _ _ _ _ _ [_] := SH.sublist hS73 (.cons _ (.cons _ (.cons_cons _ (.cons _ .slnil))))
  exact qe_ret (vs := [_]) Tryz.results88 ⟨rfl, trivial⟩ ⟨K65, rfl, hS74, (rng_nat (SliceAt.max hs71))⟩

theorem ok_impl_SegLong (F : Nat) {w : World} {K : KMap} {a1 : Option Addr} {n2 c3 : Nat} {a5 : Option Addr} {n6 c7 : Nat} {a9 : Option Addr} {n10 c11 : Nat} {a13 : Option Addr} {n14 c15 : Nat} {p0_c : GConf} {p1_s : GSeg} {p2_field : Str} {p3_id : Int} {r : Int} (hS : SH w K [] w K []) (hs4 : SliceAt tStr K a1 n2 c3 p0_c.Stops) (hs8 : SliceAt tGSyn K a5 n6 c7 p0_c.Syns) (hs12 : SliceAt tGDoc K a9 n10 c11 p1_s.Docs) (hs16 : SliceAt tGEntry K a13 n14 c15 p1_s.Entries) (hl17 : p2_field.length ≤ maxLen) (hr18 : rng64 p3_id) (hm : M.impl_SegLong F p0_c p1_s p2_field p3_id = some r) :
  Calls Tryz.prog 34 #[.agg #[.slice a1 n2 c3, .slice a5 n6 c7], .agg #[.slice a9 n10 c11, .slice a13 n14 c15], sv p2_field, .int .i64 p3_id] w fun e w' => ∃ (K' : KMap), e = .returned (.int .i64 r) ∧ SH w K [] w' K' [] ∧ rng64 r := by
 rw [M.impl_SegLong] at hm
 refine calls_in Tryz.func34 rfl Tryz.ntmps34 rfl ?_
 refine sr ?_
 refine wl_box wn rfl rfl hS ?_
 intro g19 w20 hS21
 have hS22 : SH _ _ _ _ _ [obj g19 [.slice a1 n2 c3, .slice a5 n6 c7] 26] := hS21
 refine wl_box wn rfl rfl hS22 ?_
 intro g23 w24 hS25
 have hS26 : SH _ _ _ _ _ [obj g23 [.slice a9 n10 c11, .slice a13 n14 c15] 30, _] := hS25
 refine wl_val wn rfl (rv_assign (v := .int .i64 0) rfl) ?_
 refine nsr ?_
 refine wl_val wn rfl (rv_loadmS (ds := [.slice a1 n2 c3, .slice a5 n6 c7]) tf26 rfl (.tail _ (.head _)) hS26 rfl rfl) ?_
 refine wl_val wn rfl (rv_loadmS (ds := [.slice a9 n10 c11, .slice a13 n14 c15]) tf30 rfl (.head _) hS26 rfl rfl) ?_
 obtain ⟨r27, hx28, h29⟩ := ob hm
 refine wl_call wn rfl (rt_call (vs := [.agg #[.slice a1 n2 c3, .slice a5 n6 c7], .agg #[.slice a9 n10 c11, .slice a13 n14 c15]]) co13 rfl) ((ok_impl_SegOk F) hS26.enter0 hs4 hs8 hs12 hs16 hx28) ?_
 rintro e33 w31 ⟨K30, rfl, hS32⟩
 refine ⟨_, rfl, ?_⟩
 have hS34 : SH _ _ _ _ _ [_, _] := SH.call0 hS26 hS32
 refine wl_val wn rfl (rv_not rfl) ?_
 refine nq ?_
 refine wc_cond rfl (fun hb35 => ?_) (fun hb35 => ?_)
 ·have h36 := cond_t hb35 h29
  refine sr ?_
  refine wl_val wn rfl (rv_assign (v := .int .i64 (-1)) rfl) ?_
  refine nq ?_
  refine rr ?_
  obtain rfl := oi h36
  have hS37 : SH _ _ _ _ _ [] := SH.sublist hS34 (.cons _ (.cons _ .slnil))
  exact qe_ret (vs := [_]) Tryz.results34 ⟨rfl, trivial⟩ ⟨K30, rfl, hS37, (by decide : rng64 (-1))⟩
 ·have h36 := cond_f hb35 h29
  refine wc_skip ?_
  refine qr ?_
  refine wl_val wn rfl (rv_loadmS (ds := [.slice a1 n2 c3, .slice a5 n6 c7]) tf26 rfl (.tail _ (.head _)) hS34 rfl rfl) ?_
  refine vm rfl rfl ?_
  refine vm rfl rfl ?_
  obtain ⟨r38, hx39, h40⟩ := ob h36
  refine wl_call wn rfl (rt_call (vs := [.pointer (some ⟨g23, 0, none⟩), .agg #[.slice a1 n2 c3, .slice a5 n6 c7], sv p2_field, .int .i64 p3_id]) co88 rfl) ((ok_impl_Seg_long F) (SH.enter (Lin := [_]) hS34) (SliceAt.mono hS32.le hs12) (SliceAt.mono hS32.le hs16) (SliceAt.mono hS32.le hs4) (SliceAt.mono hS32.le hs8) hl17 hr18 hx39) ?_
  rintro e45 w42 ⟨K41, rfl, hS43, hr44⟩
  refine ⟨_, rfl, ?_⟩
  have hS46 : SH _ _ _ _ _ [_, _] := SH.call (Lin := [_]) hS34 hS43
  refine va rfl rfl ?_
  refine nq ?_
  refine wc_ret ?_
  obtain rfl := oi h40
  have hS47 : SH _ _ _ _ _ [] := SH.sublist hS46 (.cons _ (.cons _ .slnil))
  exact qe_ret (vs := [_]) Tryz.results34 ⟨rfl, trivial⟩ ⟨K41, rfl, hS47, hr44⟩

set_option maxHeartbeats 2000000 in
theorem ok_laws_FnExactSegLong (F : Nat) {w : World} {K : KMap} {a1 : Option Addr} {n2 c3 : Nat} {a5 : Option Addr} {n6 c7 : Nat} {a9 : Option Addr} {n10 c11 : Nat} {a13 : Option Addr} {n14 c15 : Nat} {p0_aC : GConf} {p1_aS : GSeg} {p2_aField : Str} {p3_aId : Int} {r : Bool} (hS : SH w K [] w K []) (hs4 : SliceAt tStr K a1 n2 c3 p0_aC.Stops) (hs8 : SliceAt tGSyn K a5 n6 c7 p0_aC.Syns) (hs12 : SliceAt tGDoc K a9 n10 c11 p1_aS.Docs) (hs16 : SliceAt tGEntry K a13 n14 c15 p1_aS.Entries) (hl17 : p2_aField.length ≤ maxLen) (hr18 : rng64 p3_aId) (hm : M.laws_FnExactSegLong F p0_aC p1_aS p2_aField p3_aId = some r) :
  Calls Tryz.prog 6 #[.agg #[.slice a1 n2 c3, .slice a5 n6 c7], .agg #[.slice a9 n10 c11, .slice a13 n14 c15], sv p2_aField, .int .i64 p3_aId] w fun e w' => ∃ (K' : KMap), e = .returned (.bool r) ∧ SH w K [] w' K' [] := by
 rw [M.laws_FnExactSegLong] at hm
 refine calls_in Tryz.func6 rfl Tryz.ntmps6 rfl ?_
 refine sr ?_
 refine wl_box wn rfl rfl hS ?_
 intro g19 w20 hS21
 have hS22 : SH _ _ _ _ _ [obj g19 [.slice a1 n2 c3, .slice a5 n6 c7] 53] := hS21
 refine wl_box wn rfl rfl hS22 ?_
 intro g23 w24 hS25
 have hS26 : SH _ _ _ _ _ [obj g23 [.slice a9 n10 c11, .slice a13 n14 c15] 69, _] := hS25
 refine wl_val wn rfl (rv_assign (v := .bool false) rfl) ?_
 refine nsr ?_
 refine vm rfl rfl ?_
 refine wl_val wn rfl (rv_slen Tryz.underlying9 rfl) ?_
 refine wl_val wn rfl (rv_gtr rfl rfl) ?_
 refine nq ?_
 refine wc_cond rfl (fun hb27 => ?_) (fun hb27 => ?_)
 ·have h28 := cond_t hb27 hm
  refine sr ?_
  refine wl_val wn rfl (rv_assign (v := .bool true) rfl) ?_
  refine nq ?_
  refine rr ?_
  obtain rfl := oi h28
  have hS29 : SH _ _ _ _ _ [] := SH.sublist hS26 (.cons _ (.cons _ .slnil))
  exact qe_ret (vs := [_]) Tryz.results6 ⟨rfl, trivial⟩ ⟨K, rfl, hS29⟩
 ·have h28 := cond_f hb27 hm
  refine wc_skip ?_
  refine qr ?_
  refine wl_val wn rfl (rv_assign (v := .int .i64 1048576) rfl) ?_
  refine nr ?_
  refine wl_val wn rfl (rv_loadmS (ds := [.slice a1 n2 c3, .slice a5 n6 c7]) tf53 rfl (.tail _ (.head _)) hS26 rfl rfl) ?_
  refine vm rfl rfl ?_
  obtain ⟨r30, hx31, h32⟩ := ob h28
  refine wl_call wn rfl (rt_call (vs := [.agg #[.slice a1 n2 c3, .slice a5 n6 c7], .int .i64 1048576]) co18 rfl) ((ok_laws_szConf F) hS26.enter0 hs4 hs8 (by decide : rng64 1048576) hx31) ?_
  rintro e37 w34 ⟨K33, rfl, hS35, hr36⟩
  refine ⟨_, rfl, ?_⟩
  have hS38 : SH _ _ _ _ _ [_, _] := SH.call0 hS26 hS35
  refine va rfl rfl ?_
  refine nsr ?_
  refine vm rfl rfl ?_
  refine wl_val wn rfl (rv_lss rfl rfl) ?_
  refine nq ?_
  refine wc_cond rfl (fun hb39 => ?_) (fun hb39 => ?_)
  ·have h40 := cond_t hb39 h32
   refine sr ?_
   refine wl_val wn rfl (rv_assign (v := .bool true) rfl) ?_
   refine nq ?_
   refine rr ?_
   obtain rfl := oi h40
   have hS41 : SH _ _ _ _ _ [] := SH.sublist hS38 (.cons _ (.cons _ .slnil))
   exact qe_ret (vs := [_]) Tryz.results6 ⟨rfl, trivial⟩ ⟨K33, rfl, hS41⟩
  ·have h40 := cond_f hb39 h32
   refine wc_skip ?_
   refine qr ?_
   refine wl_val wn rfl (rv_loadmS (ds := [.slice a9 n10 c11, .slice a13 n14 c15]) tf69 rfl (.head _) hS38 rfl rfl) ?_
   refine vm rfl rfl ?_
   obtain ⟨r42, hx43, h44⟩ := ob h40
   refine wl_call wn rfl (rt_call (vs := [.agg #[.slice a9 n10 c11, .slice a13 n14 c15], .int .i64 r30]) co31 rfl) ((ok_laws_szSeg F) hS38.enter0 (SliceAt.mono hS35.le hs12) (SliceAt.mono hS35.le hs16) hr36 hx43) ?_
   rintro e49 w46 ⟨K45, rfl, hS47, hr48⟩
   refine ⟨_, rfl, ?_⟩
   have hS50 : SH _ _ _ _ _ [_, _] := SH.call0 hS38 hS47
   refine va rfl rfl ?_
   refine nsr ?_
   refine vm rfl rfl ?_
   refine wl_val wn rfl (rv_lss rfl rfl) ?_
   refine nq ?_
   refine wc_cond rfl (fun hb51 => ?_) (fun hb51 => ?_)
   ·have h52 := cond_t hb51 h44
    refine sr ?_
    refine wl_val wn rfl (rv_assign (v := .bool true) rfl) ?_
    refine nq ?_
    refine rr ?_
    obtain rfl := oi h52
    have hS53 : SH _ _ _ _ _ [] := SH.sublist hS50 (.cons _ (.cons _ .slnil))
    exact qe_ret (vs := [_]) Tryz.results6 ⟨rfl, trivial⟩ ⟨K45, rfl, hS53⟩
   ·have h52 := cond_f hb51 h44
    refine wc_skip ?_
    refine qs ?_
    refine wc_held (fun w' => Holds K45 w' ∧ HasObj g19 [.slice a1 n2 c3, .slice a5 n6 c7] w' ∧ HasObj g23 [.slice a9 n10 c11, .slice a13 n14 c15] w') (fun w' => True) 8 [] mixed ?_
    have hS55 := SH.drew hS50
    refine wg_val (i := 0) (listed' := #[true, false, false, false, false, false, false, false]) (HasObj g19 [.slice a1 n2 c3, .slice a5 n6 c7]) rfl (by kernel_rfl) (pk_then pk_body) (by kernel_rfl) rfl (by kernel_rfl) (by kernel_rfl) rfl (.inl fun _ h => h.2.1) ⟨⟨hS55.hasK (KLe.refl _), hS55.hasObj (.tail _ (.head _)), hS55.hasObj (.head _)⟩, (fun _ => trivial), by decide⟩ wn rfl (fun _ h => rh_loadmS (ds := [.slice a1 n2 c3, .slice a5 n6 c7]) tf53 rfl rfl rfl h) ?_
    refine wg_val (i := 2) (listed' := #[true, false, true, false, false, false, false, false]) (HasObj g23 [.slice a9 n10 c11, .slice a13 n14 c15]) rfl (by kernel_rfl) (pk_then pk_body) (by kernel_rfl) rfl (by kernel_rfl) (by kernel_rfl) rfl (.inl fun _ h => h.2.2) ⟨⟨hS55.hasK (KLe.refl _), hS55.hasObj (.tail _ (.head _)), hS55.hasObj (.head _)⟩, (fun _ => trivial), by decide⟩ wn rfl (fun _ h => rh_loadmS (ds := [.slice a9 n10 c11, .slice a13 n14 c15]) tf69 rfl rfl rfl h) ?_
    refine wg_val (i := 4) (listed' := #[true, false, true, false, true, false, false, false]) (fun _ => True) rfl (by kernel_rfl) (pk_then pk_body) (by kernel_rfl) rfl (by kernel_rfl) (by kernel_rfl) rfl (.inl fun _ _ => trivial) ⟨⟨hS55.hasK (KLe.refl _), hS55.hasObj (.tail _ (.head _)), hS55.hasObj (.head _)⟩, (fun _ => trivial), by decide⟩ wn rfl (fun _ _ => (rv_move rfl)) ?_
    refine wg_val (i := 5) (listed' := #[true, false, true, false, true, true, false, false]) (fun _ => True) rfl (by kernel_rfl) (pk_then pk_body) (by kernel_rfl) rfl (by kernel_rfl) (by kernel_rfl) rfl (.inl fun _ _ => trivial) ⟨⟨hS55.hasK (KLe.refl _), hS55.hasObj (.tail _ (.head _)), hS55.hasObj (.head _)⟩, (fun _ => trivial), by decide⟩ wn rfl (fun _ _ => (rv_move rfl)) ?_
    refine wg_one (i := 1) (by kernel_rfl) rfl ?_
    obtain ⟨r56, hx57, h58⟩ := ob h52
    refine wl_call wn rfl (rt_call (vs := [.agg #[.slice a1 n2 c3, .slice a5 n6 c7]]) co21 rfl) ((ok_laws_toConf F) hS55.enter0 (SliceAt.mono (hS35.le.trans hS47.le) hs4) (SliceAt.mono (hS35.le.trans hS47.le) hs8) hx57) ?_
    rintro e70 w60 ⟨a62, n63, c64, a66, n67, c68, K59, rfl, hS61, hs65, hs69⟩
    refine ⟨_, rfl, ?_⟩
    have hS71 : SH _ _ _ _ _ [_, _, _, _] := SH.call0 hS55 hS61
    refine wl_nil (qe_held (listed' := #[true, true, true, false, true, true, false, false]) rfl ⟨⟨hS71.hasK hS61.le, hS71.hasObj (.tail _ (.tail _ (.tail _ (.head _)))), hS71.hasObj (.tail _ (.tail _ (.head _)))⟩, (fun _ => trivial), by decide⟩ ?_)
    refine wg_one (i := 3) (by kernel_rfl) rfl ?_
    obtain ⟨r72, hx73, h74⟩ := ob h58
    refine wl_call wn rfl (rt_call (vs := [.agg #[.slice a9 n10 c11, .slice a13 n14 c15]]) co32 rfl) ((ok_laws_toSeg F) hS71.enter0 (SliceAt.mono ((hS35.le.trans hS47.le).trans hS61.le) hs12) (SliceAt.mono ((hS35.le.trans hS47.le).trans hS61.le) hs16) hx73) ?_
    rintro e86 w76 ⟨a78, n79, c80, a82, n83, c84, K75, rfl, hS77, hs81, hs85⟩
    refine ⟨_, rfl, ?_⟩
    have hS87 : SH _ _ _ _ _ [_, _, _, _, _, _] := SH.call0 hS71 hS77
    refine wl_nil (qe_held (listed' := #[true, true, true, true, true, true, false, false]) rfl ⟨⟨hS87.hasK (hS61.le.trans hS77.le), hS87.hasObj (.tail _ (.tail _ (.tail _ (.tail _ (.tail _ (.head _)))))), hS87.hasObj (.tail _ (.tail _ (.tail _ (.tail _ (.head _)))))⟩, (fun _ => trivial), by decide⟩ ?_)
    refine wg_one (i := 6) (by kernel_rfl) rfl ?_
    obtain ⟨r88, hx89, h90⟩ := ob h74
    refine wl_call wn rfl (rt_call (vs := [.agg #[.slice a62 n63 c64, .slice a66 n67 c68], .agg #[.slice a78 n79 c80, .slice a82 n83 c84], sv p2_aField, .int .i64 p3_aId]) co33 rfl) ((ok_spec_SegLong F) hS87.enter0 (SliceAt.mono hS77.le hs65) (SliceAt.mono hS77.le hs69) hs81 hs85 hl17 hr18 hx89) ?_
    rintro e95 w92 ⟨K91, rfl, hS93, hr94⟩
    refine ⟨_, rfl, ?_⟩
    have hS96 : SH _ _ _ _ _ [_, _, _, _, _, _] := SH.call0 hS87 hS93
    refine wl_nil (qe_held (listed' := #[true, true, true, true, true, true, true, false]) rfl ⟨⟨hS96.hasK ((hS61.le.trans hS77.le).trans hS93.le), hS96.hasObj (.tail _ (.tail _ (.tail _ (.tail _ (.tail _ (.head _)))))), hS96.hasObj (.tail _ (.tail _ (.tail _ (.tail _ (.head _)))))⟩, (fun _ => trivial), by decide⟩ ?_)
    refine wg_val (i := 7) (listed' := #[true, true, true, true, true, true, true, true]) (fun _ => True) rfl (by kernel_rfl) (pk_then pk_body) (by kernel_rfl) rfl (by kernel_rfl) (by kernel_rfl) rfl (.inl fun _ _ => trivial) ⟨⟨hS96.hasK ((hS61.le.trans hS77.le).trans hS93.le), hS96.hasObj (.tail _ (.tail _ (.tail _ (.tail _ (.tail _ (.head _)))))), hS96.hasObj (.tail _ (.tail _ (.tail _ (.tail _ (.head _)))))⟩, (fun _ => trivial), by decide⟩ wn rfl (fun _ _ => (rv_assign rfl)) ?_
    refine wg_done (by kernel_rfl) ?_
    refine qr ?_
    refine wl_val wn rfl (rv_loadmS (ds := [.slice a1 n2 c3, .slice a5 n6 c7]) tf53 rfl (.tail _ (.tail _ (.tail _ (.tail _ (.tail _ (.head _)))))) hS96 rfl rfl) ?_
    obtain ⟨r97, hx98, h99⟩ := ob h90
    refine wl_call wn rfl (rt_call (vs := [.agg #[.slice a1 n2 c3, .slice a5 n6 c7]]) co21 rfl) ((ok_laws_toConf F) hS96.enter0 (SliceAt.mono ((((hS35.le.trans hS47.le).trans hS61.le).trans hS77.le).trans hS93.le) hs4) (SliceAt.mono ((((hS35.le.trans hS47.le).trans hS61.le).trans hS77.le).trans hS93.le) hs8) hx98) ?_
    rintro e111 w101 ⟨a103, n104, c105, a107, n108, c109, K100, rfl, hS102, hs106, hs110⟩
    refine ⟨_, rfl, ?_⟩
    have hS112 : SH _ _ _ _ _ [_, _, _, _, _, _, _, _] := SH.call0 hS96 hS102
    refine wl_alloc wn rfl tf26 hS112 ?_
    intro g113 w114 hS115
    have hS116 : SH _ _ _ _ _ [obj g113 [.slice none 0 0, .slice none 0 0] 26, _, _, _, _, _, _, _, _] := hS115
    refine wl_store (cs' := [.slice a103 n104 c105, .slice a107 n108 c109]) (v := .agg #[.slice a103 n104 c105, .slice a107 n108 c109]) wn tf26 rfl rfl rfl (by simp [Value.cells, Value.oneCell']) hS116 rfl rfl ?_
    intro w117 hS118
    refine nr ?_
    refine wl_val wn rfl (rv_loadmS (ds := [.slice a9 n10 c11, .slice a13 n14 c15]) tf69 rfl (.tail _ (.tail _ (.tail _ (.tail _ (.tail _ (.tail _ (.tail _ (.head _)))))))) hS118 rfl rfl) ?_
    obtain ⟨r119, hx120, h121⟩ := ob h99
    refine wl_call wn rfl (rt_call (vs := [.agg #[.slice a9 n10 c11, .slice a13 n14 c15]]) co32 rfl) ((ok_laws_toSeg F) hS118.enter0 (SliceAt.mono (((((hS35.le.trans hS47.le).trans hS61.le).trans hS77.le).trans hS93.le).trans hS102.le) hs12) (SliceAt.mono (((((hS35.le.trans hS47.le).trans hS61.le).trans hS77.le).trans hS93.le).trans hS102.le) hs16) hx120) ?_
    rintro e133 w123 ⟨a125, n126, c127, a129, n130, c131, K122, rfl, hS124, hs128, hs132⟩
    refine ⟨_, rfl, ?_⟩
    have hS134 : SH _ _ _ _ _ [_, _, _, _, _, _, _, _, _, _, _] := SH.call0 hS118 hS124
    refine wl_alloc wn rfl tf30 hS134 ?_
    intro g135 w136 hS137
    have hS138 : SH _ _ _ _ _ [obj g135 [.slice none 0 0, .slice none 0 0] 30, _, _, _, _, _, _, _, _, _, _, _] := hS137
    refine wl_store (cs' := [.slice a125 n126 c127, .slice a129 n130 c131]) (v := .agg #[.slice a125 n126 c127, .slice a129 n130 c131]) wn tf30 rfl rfl rfl (by simp [Value.cells, Value.oneCell']) hS138 rfl rfl ?_
    intro w139 hS140
    refine nr ?_
    refine wl_val wn rfl (rv_loadmS (ds := [.slice a103 n104 c105, .slice a107 n108 c109]) tf26 rfl (.tail _ (.tail _ (.tail _ (.head _)))) hS140 rfl rfl) ?_
    refine wl_val wn rfl (rv_loadmS (ds := [.slice a125 n126 c127, .slice a129 n130 c131]) tf30 rfl (.head _) hS140 rfl rfl) ?_
    refine vm rfl rfl ?_
    refine vm rfl rfl ?_
    obtain ⟨r141, hx142, h143⟩ := ob h121
    refine wl_call wn rfl (rt_call (vs := [.agg #[.slice a103 n104 c105, .slice a107 n108 c109], .agg #[.slice a125 n126 c127, .slice a129 n130 c131], sv p2_aField, .int .i64 p3_aId]) co34 rfl) ((ok_impl_SegLong F) hS140.enter0 (SliceAt.mono hS124.le hs106) (SliceAt.mono hS124.le hs110) hs128 hs132 hl17 hr18 hx142) ?_
    rintro e148 w145 ⟨K144, rfl, hS146, hr147⟩
    refine ⟨_, rfl, ?_⟩
    have hS149 : SH _ _ _ _ _ [_, _, _, _, _, _, _, _, _, _, _, _] := SH.call0 hS140 hS146
    refine va rfl rfl ?_
    refine nsr ?_
    refine vm rfl rfl ?_
    refine vm rfl rfl ?_
    refine wl_val wn rfl (rv_neq rfl rfl) ?_
    refine nq ?_
    refine wc_cond rfl (fun hb150 => ?_) (fun hb150 => ?_)
    ·have h151 := cond_t hb150 h143
     refine sr ?_
     refine wl_val wn rfl (rv_assign (v := .bool false) rfl) ?_
     refine nq ?_
     refine rr ?_
     obtain rfl := oi h151
     have hS152 : SH _ _ _ _ _ [] := SH.sublist hS149 (.cons _ (.cons _ (.cons _ (.cons _ (.cons _ (.cons _ (.cons _ (.cons _ (.cons _ (.cons _ (.cons _ (.cons _ .slnil))))))))))))
     exact qe_ret (vs := [_]) Tryz.results6 ⟨rfl, trivial⟩ ⟨K144, rfl, hS152⟩
    ·have h151 := cond_f hb150 h143
     refine wc_skip ?_
     refine qs ?_
     refine wc_seq ?_
     refine wc_held (fun w' => Holds K144 w' ∧ HasObj g113 [.slice a103 n104 c105, .slice a107 n108 c109] w' ∧ HasObj g19 [.slice a1 n2 c3, .slice a5 n6 c7] w') (fun w' => True) 5 [] mixed ?_
     have hS154 := SH.drew hS149
     refine wg_val (i := 0) (listed' := #[true, false, false, false, false]) (HasObj g113 [.slice a103 n104 c105, .slice a107 n108 c109]) rfl (by kernel_rfl) (pk_then (pk_then pk_body)) (by kernel_rfl) rfl (by kernel_rfl) (by kernel_rfl) rfl (.inl fun _ h => h.2.1) ⟨⟨hS154.hasK (KLe.refl _), hS154.hasObj (.tail _ (.tail _ (.tail _ (.head _)))), hS154.hasObj (.tail _ (.tail _ (.tail _ (.tail _ (.tail _ (.tail _ (.tail _ (.tail _ (.tail _ (.tail _ (.tail _ (.head _))))))))))))⟩, (fun _ => trivial), by decide⟩ wn rfl (fun _ h => rh_loadmS (ds := [.slice a103 n104 c105, .slice a107 n108 c109]) tf26 rfl rfl rfl h) ?_
     refine wg_val (i := 1) (listed' := #[true, true, false, false, false]) (HasObj g19 [.slice a1 n2 c3, .slice a5 n6 c7]) rfl (by kernel_rfl) (pk_then (pk_then pk_body)) (by kernel_rfl) rfl (by kernel_rfl) (by kernel_rfl) rfl (.inl fun _ h => h.2.2) ⟨⟨hS154.hasK (KLe.refl _), hS154.hasObj (.tail _ (.tail _ (.tail _ (.head _)))), hS154.hasObj (.tail _ (.tail _ (.tail _ (.tail _ (.tail _ (.tail _ (.tail _ (.tail _ (.tail _ (.tail _ (.tail _ (.head _))))))))))))⟩, (fun _ => trivial), by decide⟩ wn rfl (fun _ h => rh_loadmS (ds := [.slice a1 n2 c3, .slice a5 n6 c7]) tf53 rfl rfl rfl h) ?_
     refine wg_one (i := 2) (by kernel_rfl) rfl ?_
     obtain ⟨r155, hx156, h157⟩ := ob h151
     refine wl_call wn rfl (rt_call (vs := [.agg #[.slice a1 n2 c3, .slice a5 n6 c7]]) co21 rfl) ((ok_laws_toConf F) hS154.enter0 (SliceAt.mono (((((((hS35.le.trans hS47.le).trans hS61.le).trans hS77.le).trans hS93.le).trans hS102.le).trans hS124.le).trans hS146.le) hs4) (SliceAt.mono (((((((hS35.le.trans hS47.le).trans hS61.le).trans hS77.le).trans hS93.le).trans hS102.le).trans hS124.le).trans hS146.le) hs8) hx156) ?_
     rintro e169 w159 ⟨a161, n162, c163, a165, n166, c167, K158, rfl, hS160, hs164, hs168⟩
     refine ⟨_, rfl, ?_⟩
     have hS170 : SH _ _ _ _ _ [_, _, _, _, _, _, _, _, _, _, _, _, _, _] := SH.call0 hS154 hS160
     refine wl_nil (qe_held (listed' := #[true, true, true, false, false]) rfl ⟨⟨hS170.hasK hS160.le, hS170.hasObj (.tail _ (.tail _ (.tail _ (.tail _ (.tail _ (.head _)))))), hS170.hasObj (.tail _ (.tail _ (.tail _ (.tail _ (.tail _ (.tail _ (.tail _ (.tail _ (.tail _ (.tail _ (.tail _ (.tail _ (.tail _ (.head _))))))))))))))⟩, (fun _ => trivial), by decide⟩ ?_)
     refine wg_one (i := 3) (by kernel_rfl) rfl ?_
     obtain ⟨r171, hx172, h173⟩ := ob h157
     refine wl_call wn rfl (rt_call (vs := [.agg #[.slice a103 n104 c105, .slice a107 n108 c109], .agg #[.slice a161 n162 c163, .slice a165 n166 c167]]) co25 rfl) ((ok_laws_eqConf F) hS170.enter0 (SliceAt.mono ((hS124.le.trans hS146.le).trans hS160.le) hs106) (SliceAt.mono ((hS124.le.trans hS146.le).trans hS160.le) hs110) hs164 hs168 hx172) ?_
     rintro e177 w175 ⟨K174, rfl, hS176⟩
     refine ⟨_, rfl, ?_⟩
     have hS178 : SH _ _ _ _ _ [_, _, _, _, _, _, _, _, _, _, _, _, _, _] := SH.call0 hS170 hS176
     refine wl_nil (qe_held (listed' := #[true, true, true, true, false]) rfl ⟨⟨hS178.hasK (hS160.le.trans hS176.le), hS178.hasObj (.tail _ (.tail _ (.tail _ (.tail _ (.tail _ (.head _)))))), hS178.hasObj (.tail _ (.tail _ (.tail _ (.tail _ (.tail _ (.tail _ (.tail _ (.tail _ (.tail _ (.tail _ (.tail _ (.tail _ (.tail _ (.head _))))))))))))))⟩, (fun _ => trivial), by decide⟩ ?_)
     refine wg_val (i := 4) (listed' := #[true, true, true, true, true]) (fun _ => True) rfl (by kernel_rfl) (pk_then (pk_then pk_body)) (by kernel_rfl) rfl (by kernel_rfl) (by kernel_rfl) rfl (.inl fun _ _ => trivial) ⟨⟨hS178.hasK (hS160.le.trans hS176.le), hS178.hasObj (.tail _ (.tail _ (.tail _ (.tail _ (.tail _ (.head _)))))), hS178.hasObj (.tail _ (.tail _ (.tail _ (.tail _ (.tail _ (.tail _ (.tail _ (.tail _ (.tail _ (.tail _ (.tail _ (.tail _ (.tail _ (.head _))))))))))))))⟩, (fun _ => trivial), by decide⟩ wn rfl (fun _ _ => (rv_not rfl)) ?_
     refine wg_done (by kernel_rfl) ?_
     refine qe_seq ?_
     refine wc_cond rfl (fun hb179 => ?_) (fun hb179 => ?_)
     ·have h180 := cond_t hb179 h173
      refine sr ?_
      refine wl_val wn rfl (rv_assign (v := .bool false) rfl) ?_
      refine nq ?_
      refine rr ?_
      obtain rfl := oi h180
      have hS181 : SH _ _ _ _ _ [] := SH.sublist hS178 (.cons _ (.cons _ (.cons _ (.cons _ (.cons _ (.cons _ (.cons _ (.cons _ (.cons _ (.cons _ (.cons _ (.cons _ (.cons _ (.cons _ .slnil))))))))))))))
      exact qe_ret (vs := [_]) Tryz.results6 ⟨rfl, trivial⟩ ⟨K174, rfl, hS181⟩
     ·have h180 := cond_f hb179 h173
      refine wc_skip ?_
      refine qs ?_
      refine wc_seq ?_
      refine wc_held (fun w' => Holds K174 w' ∧ HasObj g135 [.slice a125 n126 c127, .slice a129 n130 c131] w' ∧ HasObj g23 [.slice a9 n10 c11, .slice a13 n14 c15] w') (fun w' => True) 5 [] mixed ?_
      have hS183 := SH.drew hS178
      refine wg_val (i := 0) (listed' := #[true, false, false, false, false]) (HasObj g135 [.slice a125 n126 c127, .slice a129 n130 c131]) rfl (by kernel_rfl) (pk_then (pk_then pk_body)) (by kernel_rfl) rfl (by kernel_rfl) (by kernel_rfl) rfl (.inl fun _ h => h.2.1) ⟨⟨hS183.hasK (KLe.refl _), hS183.hasObj (.tail _ (.tail _ (.head _))), hS183.hasObj (.tail _ (.tail _ (.tail _ (.tail _ (.tail _ (.tail _ (.tail _ (.tail _ (.tail _ (.tail _ (.tail _ (.tail _ (.head _)))))))))))))⟩, (fun _ => trivial), by decide⟩ wn rfl (fun _ h => rh_loadmS (ds := [.slice a125 n126 c127, .slice a129 n130 c131]) tf30 rfl rfl rfl h) ?_
      refine wg_val (i := 1) (listed' := #[true, true, false, false, false]) (HasObj g23 [.slice a9 n10 c11, .slice a13 n14 c15]) rfl (by kernel_rfl) (pk_then (pk_then pk_body)) (by kernel_rfl) rfl (by kernel_rfl) (by kernel_rfl) rfl (.inl fun _ h => h.2.2) ⟨⟨hS183.hasK (KLe.refl _), hS183.hasObj (.tail _ (.tail _ (.head _))), hS183.hasObj (.tail _ (.tail _ (.tail _ (.tail _ (.tail _ (.tail _ (.tail _ (.tail _ (.tail _ (.tail _ (.tail _ (.tail _ (.head _)))))))))))))⟩, (fun _ => trivial), by decide⟩ wn rfl (fun _ h => rh_loadmS (ds := [.slice a9 n10 c11, .slice a13 n14 c15]) tf69 rfl rfl rfl h) ?_
      refine wg_one (i := 2) (by kernel_rfl) rfl ?_
      obtain ⟨r184, hx185, h186⟩ := ob h180
      refine wl_call wn rfl (rt_call (vs := [.agg #[.slice a9 n10 c11, .slice a13 n14 c15]]) co32 rfl) ((ok_laws_toSeg F) hS183.enter0 (SliceAt.mono (((((((((hS35.le.trans hS47.le).trans hS61.le).trans hS77.le).trans hS93.le).trans hS102.le).trans hS124.le).trans hS146.le).trans hS160.le).trans hS176.le) hs12) (SliceAt.mono (((((((((hS35.le.trans hS47.le).trans hS61.le).trans hS77.le).trans hS93.le).trans hS102.le).trans hS124.le).trans hS146.le).trans hS160.le).trans hS176.le) hs16) hx185) ?_
      rintro e198 w188 ⟨a190, n191, c192, a194, n195, c196, K187, rfl, hS189, hs193, hs197⟩
      refine ⟨_, rfl, ?_⟩
      have hS199 : SH _ _ _ _ _ [_, _, _, _, _, _, _, _, _, _, _, _, _, _, _, _] := SH.call0 hS183 hS189
      refine wl_nil (qe_held (listed' := #[true, true, true, false, false]) rfl ⟨⟨hS199.hasK hS189.le, hS199.hasObj (.tail _ (.tail _ (.tail _ (.tail _ (.head _))))), hS199.hasObj (.tail _ (.tail _ (.tail _ (.tail _ (.tail _ (.tail _ (.tail _ (.tail _ (.tail _ (.tail _ (.tail _ (.tail _ (.tail _ (.tail _ (.head _)))))))))))))))⟩, (fun _ => trivial), by decide⟩ ?_)
      refine wg_one (i := 3) (by kernel_rfl) rfl ?_
      obtain ⟨r200, hx201, h202⟩ := ob h186
      refine wl_call wn rfl (rt_call (vs := [.agg #[.slice a125 n126 c127, .slice a129 n130 c131], .agg #[.slice a190 n191 c192, .slice a194 n195 c196]]) co24 rfl) ((ok_laws_eqSeg F) hS199.enter0 (SliceAt.mono (((hS146.le.trans hS160.le).trans hS176.le).trans hS189.le) hs128) (SliceAt.mono (((hS146.le.trans hS160.le).trans hS176.le).trans hS189.le) hs132) hs193 hs197 hx201) ?_
      rintro e206 w204 ⟨K203, rfl, hS205⟩
      refine ⟨_, rfl, ?_⟩
      have hS207 : SH _ _ _ _ _ [_, _, _, _, _, _, _, _, _, _, _, _, _, _, _, _] := SH.call0 hS199 hS205
      refine wl_nil (qe_held (listed' := #[true, true, true, true, false]) rfl ⟨⟨hS207.hasK (hS189.le.trans hS205.le), hS207.hasObj (.tail _ (.tail _ (.tail _ (.tail _ (.head _))))), hS207.hasObj (.tail _ (.tail _ (.tail _ (.tail _ (.tail _ (.tail _ (.tail _ (.tail _ (.tail _ (.tail _ (.tail _ (.tail _ (.tail _ (.tail _ (.head _)))))))))))))))⟩, (fun _ => trivial), by decide⟩ ?_)
      refine wg_val (i := 4) (listed' := #[true, true, true, true, true]) (fun _ => True) rfl (by kernel_rfl) (pk_then (pk_then pk_body)) (by kernel_rfl) rfl (by kernel_rfl) (by kernel_rfl) rfl (.inl fun _ _ => trivial) ⟨⟨hS207.hasK (hS189.le.trans hS205.le), hS207.hasObj (.tail _ (.tail _ (.tail _ (.tail _ (.head _))))), hS207.hasObj (.tail _ (.tail _ (.tail _ (.tail _ (.tail _ (.tail _ (.tail _ (.tail _ (.tail _ (.tail _ (.tail _ (.tail _ (.tail _ (.tail _ (.head _)))))))))))))))⟩, (fun _ => trivial), by decide⟩ wn rfl (fun _ _ => (rv_not rfl)) ?_
      refine wg_done (by kernel_rfl) ?_
      refine qe_seq ?_
      refine wc_cond rfl (fun hb208 => ?_) (fun hb208 => ?_)
      ·have h209 := cond_t hb208 h202
       refine sr ?_
       refine wl_val wn rfl (rv_assign (v := .bool false) rfl) ?_
       refine nq ?_
       refine rr ?_
       obtain rfl := oi h209
       have hS210 : SH _ _ _ _ _ [] := SH.sublist hS207 (.cons _ (.cons _ (.cons _ (.cons _ (.cons _ (.cons _ (.cons _ (.cons _ (.cons _ (.cons _ (.cons _ (.cons _ (.cons _ (.cons _ (.cons _ (.cons _ .slnil))))))))))))))))
       exact qe_ret (vs := [_]) Tryz.results6 ⟨rfl, trivial⟩ ⟨K203, rfl, hS210⟩
      ·have h209 := cond_f hb208 h202
       refine wc_skip ?_
       refine qr ?_
       refine wl_val wn rfl (rv_assign (v := .bool true) rfl) ?_
       refine nq ?_
       refine wc_ret ?_
       obtain rfl := oi h209
       have hS211 : SH _ _ _ _ _ [] := SH.sublist hS207 (.cons _ (.cons _ (.cons _ (.cons _ (.cons _ (.cons _ (.cons _ (.cons _ (.cons _ (.cons _ (.cons _ (.cons _ (.cons _ (.cons _ (.cons _ (.cons _ .slnil))))))))))))))))
       exact qe_ret (vs := [_]) Tryz.results6 ⟨rfl, trivial⟩ ⟨K203, rfl, hS211⟩
end Go.Proofs.YtdcmmhjhffcnhaaGreat
