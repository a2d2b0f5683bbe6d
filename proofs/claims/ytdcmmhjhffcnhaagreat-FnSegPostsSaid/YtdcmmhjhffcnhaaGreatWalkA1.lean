/-
 Walks of the functions. Printed by gen.py.
-/
import Derived.Test.YtdcmmhjhffcnhaaGreatWalkA0
set_option linter.unusedVariables false
set_option maxRecDepth 100000
namespace Go.Proofs.YtdcmmhjhffcnhaaGreat
open Go Go.Fk Go.RowKit

set_option maxHeartbeats 2000000 in
theorem ok_spec_l7Entry (F : Nat) {w : World} {K : KMap} {a1 : Option Addr} {n2 c3 : Nat} {a5 : Option Addr} {n6 c7 : Nat} {a9 : Option Addr} {n10 c11 : Nat} {p0_c : GConf} {p1_docs : List GDoc} {p2_field : Str} {p3_term : Str} {r : GEntry} (hS : SH w K [] w K []) (hs4 : SliceAt tStr K a1 n2 c3 p0_c.Stops) (hs8 : SliceAt tGSyn K a5 n6 c7 p0_c.Syns) (hs12 : SliceAt tGDoc K a9 n10 c11 p1_docs) (hl13 : p2_field.length ≤ maxLen) (hl14 : p3_term.length ≤ maxLen) (hm : M.spec_l7Entry F p0_c p1_docs p2_field p3_term = some r) :
  Calls Tryz.prog 116 #[.agg #[.slice a1 n2 c3, .slice a5 n6 c7], .slice a9 n10 c11, sv p2_field, sv p3_term] w fun e w' => ∃ (a_3 : Option Addr) (n_4 c_5 : Nat) (K' : KMap), e = .returned (.agg #[sv r.Field, sv r.Term, .slice a_3 n_4 c_5]) ∧ SH w K [] w' K' [tail (.slice a_3 n_4 c_5) 48 2] ∧ r.Field.length ≤ maxLen ∧ r.Term.length ≤ maxLen ∧ SliceAt tGPost K' a_3 n_4 c_5 r.Posts := by
 rw [M.spec_l7Entry] at hm
 refine calls_in Tryz.func116 rfl Tryz.ntmps116 rfl ?_
 refine sr ?_
 refine wl_box wn rfl rfl hS ?_
 intro g15 w16 hS17
 have hS18 : SH _ _ _ _ _ [obj g15 [.slice a1 n2 c3, .slice a5 n6 c7] 26] := hS17
 refine wl_alloc wn rfl tf94 hS18 ?_
 intro g19 w20 hS21
 have hS22 : SH _ _ _ _ _ [obj g19 [sv [], sv [], .slice none 0 0] 94, _] := hS21
 refine nr ?_
 refine vm rfl rfl ?_
 refine vm rfl rfl ?_
 refine wl_val wn rfl (rv_build (cs := #[sv p2_field, sv p3_term, .slice none 0 0]) sp94 tf94 rfl (by kernel_rfl)) ?_
 refine wl_alloc wn rfl tf94 hS22 ?_
 intro g23 w24 hS25
 have hS26 : SH _ _ _ _ _ [obj g23 [sv [], sv [], .slice none 0 0] 94, _, _] := hS25
 refine wl_store (cs' := [sv p2_field, sv p3_term, .slice none 0 0]) (v := .agg #[sv p2_field, sv p3_term, .slice none 0 0]) wn tf94 rfl rfl rfl (by simp [Value.cells, Value.oneCell', sv]) hS26 rfl rfl ?_
 intro w27 hS28
 refine nsr ?_
 refine wl_val wn rfl (rv_assign (v := .int .i64 0) rfl) ?_
 refine nq ?_
 obtain ⟨o29, h30, h31⟩ := ob hm
 refine wc_cutg (fun E' w' => ∃ (a38 : Option Addr) (n39 c40 : Nat) (K32 : KMap), E' = [(8, .pointer (some ⟨g19, 0, none⟩)), (9, .pointer (some ⟨g23, 0, none⟩))] ∧ SH w K [] w' K32 [obj g19 [sv [], sv [], .slice none 0 0] 94, obj g23 [sv o29.Field, sv o29.Term, .slice a38 n39 c40] 94, tail (.slice a38 n39 c40) 48 2] ∧ KLe K K32 ∧ o29.Field.length ≤ maxLen ∧ o29.Term.length ≤ maxLen ∧ SliceAt tGPost K32 a38 n39 c40 o29.Posts) ?_ ?_
 ·refine wc_block ?_
  obtain ⟨r43, h44, h45⟩ := ob h30
  have hS57 := SH.nil hS28 48 2
  have hS58 : SH _ _ _ _ _ [_, _, _, _] := SH.front (p := [_]) hS57
  have hS59 : SH _ _ _ _ _ [_, _, _, _] := SH.front (p := [_, _]) hS58
  have hS60 : SH _ _ _ _ _ [_, _, _, _] := SH.front (p := [_, _, _]) hS59
  refine wc_while' (fun (s42 : Int × GEntry) E' w' => ∃ (a53 : Option Addr) (n54 c55 : Nat) (K46 : KMap), E' = [(1, .slice a9 n10 c11), (2, sv p2_field), (3, sv p3_term), (4, .pointer (some ⟨g15, 0, none⟩)), (8, .pointer (some ⟨g19, 0, none⟩)), (9, .pointer (some ⟨g23, 0, none⟩)), (10, .int .i64 s42.1)] ∧ SH w K [] w' K46 [obj g15 [.slice a1 n2 c3, .slice a5 n6 c7] 26, obj g19 [sv [], sv [], .slice none 0 0] 94, obj g23 [sv s42.2.Field, sv s42.2.Term, .slice a53 n54 c55] 94, tail (.slice a53 n54 c55) 48 2] ∧ KLe K K46 ∧ rng64 s42.1 ∧ s42.2.Field.length ≤ maxLen ∧ s42.2.Term.length ≤ maxLen ∧ SliceAt tGPost K46 a53 n54 c55 s42.2.Posts) h44 ⟨none, 0, 0, K, rfl, hS60, (KLe.refl _), (by decide : rng64 0), hl13, hl14, (SliceAt.nil _ _)⟩ ⟨rfl, rfl, rfl, rfl, rfl, rfl, rfl, trivial⟩ ?_
  rintro s42 _ w48 r61 h62 hx63 ⟨a53, n54, c55, K46, rfl, hS49, hl47, hr50, hl51, hl52, hs56⟩
  refine wc_seq ?_
  refine sr ?_
  refine vm rfl rfl ?_
  refine vm rfl rfl ?_
  refine wl_val wn rfl (rv_len (t := tGDoc) Tryz.underlying27 rfl (SliceAt.mono hl47 hs12)) ?_
  refine wl_val wn rfl (rv_lss rfl rfl) ?_
  refine nq ?_
  refine wc_cond rfl (fun hb64 => ?_) (fun hb64 => ?_)
  ·have h65 := cond_t hb64 h62
   refine wc_skip ?_
   refine qs ?_
   refine wc_block ?_
   refine wc_seq ?_
   refine wc_held (fun w' => Holds K46 w' ∧ HasObj g15 [.slice a1 n2 c3, .slice a5 n6 c7] w') (fun w' => True) 9 [] mixed ?_
   have hS67 := SH.drew hS49
   refine wg_val (i := 0) (listed' := #[true, false, false, false, false, false, false, false, false]) (HasObj g15 [.slice a1 n2 c3, .slice a5 n6 c7]) rfl (by kernel_rfl) (pk_then (pk_block (pk_then (pk_then (pk_block (pk_then (pk_then pk_body))))))) (by kernel_rfl) rfl (by kernel_rfl) (by kernel_rfl) rfl (.inl fun _ h => h.2) ⟨⟨hS67.hasK (KLe.refl _), hS67.hasObj (.head _)⟩, (fun _ => trivial), by decide⟩ wn rfl (fun _ h => rh_loadmS (ds := [.slice a1 n2 c3, .slice a5 n6 c7]) tf26 rfl rfl rfl h) ?_
   refine wg_val (i := 1) (listed' := #[true, true, false, false, false, false, false, false, false]) (fun _ => True) rfl (by kernel_rfl) (pk_then (pk_block (pk_then (pk_then (pk_block (pk_then (pk_then pk_body))))))) (by kernel_rfl) rfl (by kernel_rfl) (by kernel_rfl) rfl (.inl fun _ _ => trivial) ⟨⟨hS67.hasK (KLe.refl _), hS67.hasObj (.head _)⟩, (fun _ => trivial), by decide⟩ wn rfl (fun _ _ => (rv_move rfl)) ?_
   refine wg_val (i := 2) (listed' := #[true, true, true, false, false, false, false, false, false]) (fun _ => True) rfl (by kernel_rfl) (pk_then (pk_block (pk_then (pk_then (pk_block (pk_then (pk_then pk_body))))))) (by kernel_rfl) rfl (by kernel_rfl) (by kernel_rfl) rfl (.inl fun _ _ => trivial) ⟨⟨hS67.hasK (KLe.refl _), hS67.hasObj (.head _)⟩, (fun _ => trivial), by decide⟩ wn rfl (fun _ _ => (rv_move rfl)) ?_
   obtain ⟨x68, hx69, h70⟩ := ob h65
   refine wg_indexAddr (t := tGDoc) (j := 3) (listed' := #[true, true, true, true, false, false, false, false, false]) rfl (by kernel_rfl) (pk_then (pk_block (pk_then (pk_then (pk_block (pk_then (pk_then pk_body))))))) (by kernel_rfl) rfl (by kernel_rfl) (by kernel_rfl) rfl ⟨⟨hS67.hasK (KLe.refl _), hS67.hasObj (.head _)⟩, (fun _ => trivial), by decide⟩ wn rfl Tryz.underlying27 tf44 rfl rfl (SliceAt.mono hl47 hs12) hx69 ?_
   intro b71 o72 u73 hu74 ha75
   obtain ⟨a77, n78, c79, a81, n82, c83, rfl, hr76, hs80, hs84⟩ := hu74
   have ha85 : AtK _ b71 o72 [.int .i64 x68.Id, .slice a77 n78 c79, .slice a81 n82 c83] := ha75
   refine wg_val (i := 4) (listed' := #[true, true, true, true, true, false, false, false, false]) (Holds K46) rfl (by kernel_rfl) (pk_then (pk_block (pk_then (pk_then (pk_block (pk_then (pk_then pk_body))))))) (by kernel_rfl) rfl (by kernel_rfl) (by kernel_rfl) rfl (.inl fun _ h => h.1) ⟨⟨hS67.hasK (KLe.refl _), hS67.hasObj (.head _)⟩, (fun _ => trivial), by decide⟩ wn rfl (fun _ h => rh_loadS (cs := [.int .i64 x68.Id, .slice a77 n78 c79, .slice a81 n82 c83]) tf44 rfl ha85 rfl h) ?_
   refine wg_val (i := 5) (listed' := #[true, true, true, true, true, true, false, false, false]) (fun _ => True) rfl (by kernel_rfl) (pk_then (pk_block (pk_then (pk_then (pk_block (pk_then (pk_then pk_body))))))) (by kernel_rfl) rfl (by kernel_rfl) (by kernel_rfl) rfl (.inl fun _ _ => trivial) ⟨⟨hS67.hasK (KLe.refl _), hS67.hasObj (.head _)⟩, (fun _ => trivial), by decide⟩ wn rfl (fun _ _ => (rv_move rfl)) ?_
   refine wg_val (i := 6) (listed' := #[true, true, true, true, true, true, true, false, false]) (fun _ => True) rfl (by kernel_rfl) (pk_then (pk_block (pk_then (pk_then (pk_block (pk_then (pk_then pk_body))))))) (by kernel_rfl) rfl (by kernel_rfl) (by kernel_rfl) rfl (.inl fun _ _ => trivial) ⟨⟨hS67.hasK (KLe.refl _), hS67.hasObj (.head _)⟩, (fun _ => trivial), by decide⟩ wn rfl (fun _ _ => (rv_move rfl)) ?_
   refine wg_one (i := 7) (by kernel_rfl) rfl ?_
   obtain ⟨r86, hx87, h88⟩ := ob h70
   refine wl_call wn rfl (rt_call (vs := [.agg #[.slice a1 n2 c3, .slice a5 n6 c7], .agg #[.int .i64 x68.Id, .slice a77 n78 c79, .slice a81 n82 c83], sv p2_field, sv p3_term]) co150 rfl) ((ok_spec_l7Post F) hS67.enter0 (SliceAt.mono hl47 hs4) (SliceAt.mono hl47 hs8) hr76 hs80 hs84 hl13 hl14 hx87) ?_
   rintro e96 w90 ⟨a92, n93, c94, K89, rfl, hS91, hs95⟩
   refine ⟨_, rfl, ?_⟩
   have hS97 : SH _ _ _ _ _ [_, _, _, _, _] := SH.call0 hS67 hS91
   refine wl_nil (qe_held (listed' := #[true, true, true, true, true, true, true, true, false]) rfl ⟨⟨hS97.hasK hS91.le, hS97.hasObj (.tail _ (.head _))⟩, (fun _ => trivial), by decide⟩ ?_)
   refine wg_val (i := 8) (listed' := #[true, true, true, true, true, true, true, true, true]) (fun _ => True) rfl (by kernel_rfl) (pk_then (pk_block (pk_then (pk_then (pk_block (pk_then (pk_then pk_body))))))) (by kernel_rfl) rfl (by kernel_rfl) (by kernel_rfl) rfl (.inl fun _ _ => trivial) ⟨⟨hS97.hasK hS91.le, hS97.hasObj (.tail _ (.head _))⟩, (fun _ => trivial), by decide⟩ wn rfl (fun _ _ => (rv_assign rfl)) ?_
   refine wg_done (by kernel_rfl) ?_
   refine qr ?_
   refine vm rfl rfl ?_
   refine wl_val wn rfl (rv_len (t := tInt) Tryz.underlying37 rfl hs95) ?_
   refine wl_val wn rfl (rv_gtr rfl rfl) ?_
   refine nq ?_
   refine wc_cond rfl (fun hb98 => ?_) (fun hb98 => ?_)
   ·have h99 := cond_t hb98 h88
    refine wc_held (fun w' => Holds K89 w') (fun w' => HasObj g23 [sv s42.2.Field, sv s42.2.Term, .slice a53 n54 c55] w') 12 [(1, 10), (1, 11), (1, 12), (10, 11), (10, 12), (11, 12)] mixed ?_
    have hS101 := SH.drew hS97
    refine wg_val (i := 0) (listed' := #[true, false, false, false, false, false, false, false, false, false, false, false, false]) (fun _ => True) rfl (by kernel_rfl) (pk_block (pk_then (pk_then (pk_block (pk_then (pk_then pk_body)))))) (by kernel_rfl) rfl (by kernel_rfl) (by kernel_rfl) rfl (.inl fun _ _ => trivial) ⟨(hS101.hasK (KLe.refl _)), (fun _ => hS101.hasObj (.tail _ (.tail _ (.tail _ (.head _))))), by decide⟩ wn rfl (fun _ _ => (rv_fieldAddr ff94_2 rfl)) ?_
    refine wg_val (i := 1) (listed' := #[true, true, false, false, false, false, false, false, false, false, false, false, false]) (HasObj g23 [sv s42.2.Field, sv s42.2.Term, .slice a53 n54 c55]) rfl (by kernel_rfl) (pk_block (pk_then (pk_then (pk_block (pk_then (pk_then pk_body)))))) (by kernel_rfl) rfl (by kernel_rfl) (by kernel_rfl) rfl (.inr ⟨rfl, fun _ _ h => h⟩) ⟨(hS101.hasK (KLe.refl _)), (fun _ => hS101.hasObj (.tail _ (.tail _ (.tail _ (.head _))))), by decide⟩ wn rfl (fun _ h => rh_loadm1 tf33 rfl rfl h) ?_
    refine wg_val (i := 2) (listed' := #[true, true, true, false, false, false, false, false, false, false, false, false, false]) (fun _ => True) rfl (by kernel_rfl) (pk_block (pk_then (pk_then (pk_block (pk_then (pk_then pk_body)))))) (by kernel_rfl) rfl (by kernel_rfl) (by kernel_rfl) rfl (.inl fun _ _ => trivial) ⟨(hS101.hasK (KLe.refl _)), (fun _ => hS101.hasObj (.tail _ (.tail _ (.tail _ (.head _))))), by decide⟩ wn rfl (fun _ _ => (rv_move rfl)) ?_
    refine wg_val (i := 3) (listed' := #[true, true, true, true, false, false, false, false, false, false, false, false, false]) (fun _ => True) rfl (by kernel_rfl) (pk_block (pk_then (pk_then (pk_block (pk_then (pk_then pk_body)))))) (by kernel_rfl) rfl (by kernel_rfl) (by kernel_rfl) rfl (.inl fun _ _ => trivial) ⟨(hS101.hasK (KLe.refl _)), (fun _ => hS101.hasObj (.tail _ (.tail _ (.tail _ (.head _))))), by decide⟩ wn rfl (fun _ _ => (rv_move rfl)) ?_
    obtain ⟨x102, hx103, h104⟩ := ob h99
    refine wg_indexAddr (t := tGDoc) (j := 4) (listed' := #[true, true, true, true, true, false, false, false, false, false, false, false, false]) rfl (by kernel_rfl) (pk_block (pk_then (pk_then (pk_block (pk_then (pk_then pk_body)))))) (by kernel_rfl) rfl (by kernel_rfl) (by kernel_rfl) rfl ⟨(hS101.hasK (KLe.refl _)), (fun _ => hS101.hasObj (.tail _ (.tail _ (.tail _ (.head _))))), by decide⟩ wn rfl Tryz.underlying27 tf44 rfl rfl (SliceAt.mono (hl47.trans hS91.le) hs12) hx103 ?_
    intro b105 o106 u107 hu108 ha109
    obtain ⟨a111, n112, c113, a115, n116, c117, rfl, hr110, hs114, hs118⟩ := hu108
    have ha119 : AtK _ b105 o106 [.int .i64 x102.Id, .slice a111 n112 c113, .slice a115 n116 c117] := ha109
    refine wg_val (i := 5) (listed' := #[true, true, true, true, true, true, false, false, false, false, false, false, false]) (fun _ => True) rfl (by kernel_rfl) (pk_block (pk_then (pk_then (pk_block (pk_then (pk_then pk_body)))))) (by kernel_rfl) rfl (by kernel_rfl) (by kernel_rfl) rfl (.inl fun _ _ => trivial) ⟨(hS101.hasK (KLe.refl _)), (fun _ => hS101.hasObj (.tail _ (.tail _ (.tail _ (.head _))))), by decide⟩ wn rfl (fun _ _ => (rv_fieldAddr ff44_0 rfl)) ?_
    refine wg_val (i := 6) (listed' := #[true, true, true, true, true, true, true, false, false, false, false, false, false]) (Holds K89) rfl (by kernel_rfl) (pk_block (pk_then (pk_then (pk_block (pk_then (pk_then pk_body)))))) (by kernel_rfl) rfl (by kernel_rfl) (by kernel_rfl) rfl (.inl fun _ h => h) ⟨(hS101.hasK (KLe.refl _)), (fun _ => hS101.hasObj (.tail _ (.tail _ (.tail _ (.head _))))), by decide⟩ wn rfl (fun _ h => rh_load1 tf3 rfl (ha119 0 _ rfl) h) ?_
    refine wg_val (i := 7) (listed' := #[true, true, true, true, true, true, true, true, false, false, false, false, false]) (fun _ => True) rfl (by kernel_rfl) (pk_block (pk_then (pk_then (pk_block (pk_then (pk_then pk_body)))))) (by kernel_rfl) rfl (by kernel_rfl) (by kernel_rfl) rfl (.inl fun _ _ => trivial) ⟨(hS101.hasK (KLe.refl _)), (fun _ => hS101.hasObj (.tail _ (.tail _ (.tail _ (.head _))))), by decide⟩ wn rfl (fun _ _ => (rv_move rfl)) ?_
    refine wg_val (i := 8) (listed' := #[true, true, true, true, true, true, true, true, true, false, false, false, false]) (fun _ => True) rfl (by kernel_rfl) (pk_block (pk_then (pk_then (pk_block (pk_then (pk_then pk_body)))))) (by kernel_rfl) rfl (by kernel_rfl) (by kernel_rfl) rfl (.inl fun _ _ => trivial) ⟨(hS101.hasK (KLe.refl _)), (fun _ => hS101.hasObj (.tail _ (.tail _ (.tail _ (.head _))))), by decide⟩ wn rfl (fun _ _ => (rv_build (cs := #[.int .i64 x102.Id, .slice a92 n93 c94]) sp48 tf48 rfl (by kernel_rfl))) ?_
    refine wg_one (i := 9) (by kernel_rfl) rfl ?_
    refine wl_buildSlice (t := tGPost) (n := 1) (pv := [(0, .agg #[.int .i64 x102.Id, .slice a92 n93 c94])]) (cs := [.int .i64 x102.Id, .slice a92 n93 c94]) (xs := [(GPost.mk x102.Id r86)]) wn rfl Tryz.underlying33 tf48 rfl rfl rfl (by kernel_rfl) rfl rfl (lit_cons (u := .agg #[.int .i64 x102.Id, .slice a92 n93 c94]) (z := (GPost.mk x102.Id r86)) ⟨a92, n93, c94, rfl, hr110, hs95⟩ lit_nil) hS101 ?_
    intro a120 w121 K122 hl123 hs124 hS125
    refine wl_nil (qe_held (listed' := #[true, true, true, true, true, true, true, true, true, true, false, false, false]) rfl ⟨(hS125.hasK hl123), (fun _ => hS125.hasObj (.tail _ (.tail _ (.tail _ (.tail _ (.head _)))))), by decide⟩ ?_)
    refine wg_one (i := 10) (by kernel_rfl) rfl ?_
    have hS126 : SH _ _ _ _ _ [_, _, _, _, _, _] := SH.front (p := [_, _, _, _, _]) hS125
    obtain ⟨x127, hx128, h129⟩ := ob h104
    refine wl_append (t := tGPost) wn rfl Tryz.underlying33 tf48 rfl rfl rfl rfl rfl (SliceAt.mono (hS91.le.trans hl123) hs56) hs124 hx128 hS126 ?_
    intro a130 n131 c132 w133 K134 hl135 hs136 hS137
    refine wl_nil (qe_held (listed' := #[true, true, true, true, true, true, true, true, true, true, true, false, false]) rfl ⟨(hS137.hasK (hl123.trans hl135)), (fun _ => hS137.hasObj (.tail _ (.tail _ (.tail _ (.tail _ (.tail _ (.head _))))))), by decide⟩ ?_)
    refine wg_val (i := 11) (listed' := #[true, true, true, true, true, true, true, true, true, true, true, true, false]) (fun _ => True) rfl (by kernel_rfl) (pk_block (pk_then (pk_then (pk_block (pk_then (pk_then pk_body)))))) (by kernel_rfl) rfl (by kernel_rfl) (by kernel_rfl) rfl (.inl fun _ _ => trivial) ⟨(hS137.hasK (hl123.trans hl135)), (fun _ => hS137.hasObj (.tail _ (.tail _ (.tail _ (.tail _ (.tail _ (.head _))))))), by decide⟩ wn rfl (fun _ _ => (rv_fieldAddr ff94_2 rfl)) ?_
    refine wg_one (i := 12) (by kernel_rfl) rfl ?_
    have hS138 : SH _ _ _ _ _ [_, _, _, _, _, _] := SH.front (p := [_, _, _, _, _]) hS137
    refine wl_store (cs' := [sv s42.2.Field, sv s42.2.Term, .slice a130 n131 c132]) (v := .slice a130 n131 c132) wn tf33 rfl rfl rfl (by simp [Value.cells, Value.oneCell']) hS138 rfl rfl ?_
    intro w139 hS140
    refine wl_nil (qe_held (listed' := #[true, true, true, true, true, true, true, true, true, true, true, true, true]) rfl ⟨(hS140.hasK (hl123.trans hl135)), (fun h => nomatch h), by decide⟩ ?_)
    refine wg_done (by kernel_rfl) ?_
    refine qe_block ?_
    refine qe_seq ?_
    refine wc_region ?_
    refine vm rfl rfl ?_
    refine wl_val wn rfl (rv_add rfl rfl) ?_
    refine va rfl rfl ?_
    refine wl_nil ?_
    obtain rfl := oi h129
    have hS141 : SH _ _ _ _ _ [_, _, _, _, _, _] := SH.front (p := [_]) hS140
    have hS142 : SH _ _ _ _ _ [_, _, _, _, _, _] := SH.front (p := [_]) hS141
    have hS143 : SH _ _ _ _ _ [_, _, _, _, _, _] := SH.front (p := [_, _, _, _, _]) hS142
    have hS144 : SH _ _ _ _ _ [_, _, _, _, _, _] := SH.front (p := [_, _, _, _, _]) hS143
    have hS145 : SH _ _ _ _ _ [_, _, _, _] := SH.sublist hS144 (.cons_cons _ (.cons_cons _ (.cons_cons _ (.cons_cons _ (.cons _ (.cons _ .slnil))))))
    exact qe_mid' ⟨_, rfl, a130, n131, c132, K134, rfl, hS145, (((hl47.trans hS91.le).trans hl123).trans hl135), (w64_rng _), hl51, hl52, hs136⟩ ⟨rfl, rfl, rfl, rfl, rfl, rfl, rfl, trivial⟩
   ·have h99 := cond_f hb98 h88
    refine wc_skip ?_
    refine qe_block ?_
    refine qe_seq ?_
    refine wc_region ?_
    refine vm rfl rfl ?_
    refine wl_val wn rfl (rv_add rfl rfl) ?_
    refine va rfl rfl ?_
    refine wl_nil ?_
    obtain rfl := oi h99
    have hS146 : SH _ _ _ _ _ [_, _, _, _] := SH.sublist hS97 (.cons _ (.cons_cons _ (.cons_cons _ (.cons_cons _ (.cons_cons _ .slnil)))))
    exact qe_mid' ⟨_, rfl, a53, n54, c55, K89, rfl, hS146, (hl47.trans hS91.le), (w64_rng _), hl51, hl52, (SliceAt.mono hS91.le hs56)⟩ ⟨rfl, rfl, rfl, rfl, rfl, rfl, rfl, trivial⟩
  ·have h65 := cond_f hb64 h62
   refine wc_exit ?_
   refine qe_then_exit ?_
   refine qe_then_exit ?_
   obtain rfl := oi h65
   have e147 := hx63 _ rfl
   subst e147
   refine qe_block_eq ?_
   obtain rfl := oi h45
   have hS148 : SH _ _ _ _ _ [_, _, _] := SH.sublist hS49 (.cons _ (.cons_cons _ (.cons_cons _ (.cons_cons _ .slnil))))
   exact qe_mid' ⟨a53, n54, c55, K46, rfl, hS148, hl47, hl51, hl52, hs56⟩ ⟨rfl, rfl, trivial⟩
 ·rintro _ w34 ⟨a38, n39, c40, K32, rfl, hS35, hl33, hl36, hl37, hs41⟩
  refine qr ?_
  refine wl_val wn rfl (rv_loadmS (ds := [sv o29.Field, sv o29.Term, .slice a38 n39 c40]) tf94 rfl (.tail _ (.head _)) hS35 rfl rfl) ?_
  refine wl_store (cs' := [sv o29.Field, sv o29.Term, .slice a38 n39 c40]) (v := .agg #[sv o29.Field, sv o29.Term, .slice a38 n39 c40]) wn tf94 rfl rfl rfl (by simp [Value.cells, Value.oneCell', sv]) hS35 rfl rfl ?_
  intro w149 hS150
  refine nq ?_
  refine wc_ret ?_
  obtain rfl := oi h31
  have hS151 : SH _ _ _ _ _ [_] := SH.sublist hS150 (.cons _ (.cons _ (.cons_cons _ .slnil)))
  exact qe_ret (vs := [_]) Tryz.results116 ⟨⟨_, _, rfl, run_loadVar_at tf94 (cs := [sv o29.Field, sv o29.Term, .slice a38 n39 c40]) (fun j c e => by rw [Nat.zero_add, hS150.mem_obj (.head _)]; exact e) (.inl ⟨rfl, rfl, rfl⟩)⟩, trivial⟩ ⟨a38, n39, c40, K32, rfl, hS151, hl36, hl37, hs41⟩

theorem ok_spec_l7CopyDoc (F : Nat) {w : World} {K : KMap} {a2 : Option Addr} {n3 c4 : Nat} {a6 : Option Addr} {n7 c8 : Nat} {p0_d : GDoc} {r : GDoc} (hS : SH w K [] w K []) (hr1 : rng64 p0_d.Id) (hs5 : SliceAt tGField K a2 n3 c4 p0_d.Fields) (hs9 : SliceAt tGAttr K a6 n7 c8 p0_d.Nums) (hm : M.spec_l7CopyDoc F p0_d = some r) :
  Calls Tryz.prog 117 #[.agg #[.int .i64 p0_d.Id, .slice a2 n3 c4, .slice a6 n7 c8]] w fun e w' => ∃ (a_2 : Option Addr) (n_3 c_4 : Nat) (a_6 : Option Addr) (n_7 c_8 : Nat) (K' : KMap), e = .returned (.agg #[.int .i64 r.Id, .slice a_2 n_3 c_4, .slice a_6 n_7 c_8]) ∧ SH w K [] w' K' [tail (.slice a_2 n_3 c_4) 109 2, tail (.slice a_6 n_7 c_8) 152 2] ∧ rng64 r.Id ∧ SliceAt tGField K' a_2 n_3 c_4 r.Fields ∧ SliceAt tGAttr K' a_6 n_7 c_8 r.Nums := by
 rw [M.spec_l7CopyDoc] at hm
 refine calls_in Tryz.func117 rfl Tryz.ntmps117 rfl ?_
 refine sr ?_
 refine wl_box wn rfl rfl hS ?_
 intro g10 w11 hS12
 have hS13 : SH _ _ _ _ _ [obj g10 [.int .i64 p0_d.Id, .slice a2 n3 c4, .slice a6 n7 c8] 44] := hS12
 refine wl_alloc wn rfl tf44 hS13 ?_
 intro g14 w15 hS16
 have hS17 : SH _ _ _ _ _ [obj g14 [.int .i64 0, .slice none 0 0, .slice none 0 0] 44, _] := hS16
 refine ns ?_
 obtain ⟨x26, hx27, h28⟩ := ob hm
 obtain ⟨x43, hx44, h45⟩ := ob h28
 refine wc_held (fun w' => Holds K w' ∧ HasObj g10 [.int .i64 p0_d.Id, .slice a2 n3 c4, .slice a6 n7 c8] w') (fun w' => True) 12 [] mixed ?_
 have hS19 := SH.drew hS17
 refine wg_val (i := 0) (listed' := #[true, false, false, false, false, false, false, false, false, false, false, false]) (fun _ => True) rfl (by kernel_rfl) (pk_then pk_body) (by kernel_rfl) rfl (by kernel_rfl) (by kernel_rfl) rfl (.inl fun _ _ => trivial) ⟨⟨hS19.hasK (KLe.refl _), hS19.hasObj (.tail _ (.head _))⟩, (fun _ => trivial), by decide⟩ wn rfl (fun _ _ => (rv_fieldAddr ff44_0 rfl)) ?_
 refine wg_val (i := 1) (listed' := #[true, true, false, false, false, false, false, false, false, false, false, false]) (HasObj g10 [.int .i64 p0_d.Id, .slice a2 n3 c4, .slice a6 n7 c8]) rfl (by kernel_rfl) (pk_then pk_body) (by kernel_rfl) rfl (by kernel_rfl) (by kernel_rfl) rfl (.inl fun _ h => h.2) ⟨⟨hS19.hasK (KLe.refl _), hS19.hasObj (.tail _ (.head _))⟩, (fun _ => trivial), by decide⟩ wn rfl (fun _ h => rh_loadm1 tf3 rfl rfl h) ?_
 refine wg_val (i := 3) (listed' := #[true, true, false, true, false, false, false, false, false, false, false, false]) (fun _ => True) rfl (by kernel_rfl) (pk_then pk_body) (by kernel_rfl) rfl (by kernel_rfl) (by kernel_rfl) rfl (.inl fun _ _ => trivial) ⟨⟨hS19.hasK (KLe.refl _), hS19.hasObj (.tail _ (.head _))⟩, (fun _ => trivial), by decide⟩ wn rfl (fun _ _ => (rv_fieldAddr ff44_1 rfl)) ?_
 refine wg_val (i := 4) (listed' := #[true, true, false, true, true, false, false, false, false, false, false, false]) (HasObj g10 [.int .i64 p0_d.Id, .slice a2 n3 c4, .slice a6 n7 c8]) rfl (by kernel_rfl) (pk_then pk_body) (by kernel_rfl) rfl (by kernel_rfl) (by kernel_rfl) rfl (.inl fun _ h => h.2) ⟨⟨hS19.hasK (KLe.refl _), hS19.hasObj (.tail _ (.head _))⟩, (fun _ => trivial), by decide⟩ wn rfl (fun _ h => rh_loadm1 tf41 rfl rfl h) ?_
 refine wg_val (i := 7) (listed' := #[true, true, false, true, true, false, false, true, false, false, false, false]) (fun _ => True) rfl (by kernel_rfl) (pk_then pk_body) (by kernel_rfl) rfl (by kernel_rfl) (by kernel_rfl) rfl (.inl fun _ _ => trivial) ⟨⟨hS19.hasK (KLe.refl _), hS19.hasObj (.tail _ (.head _))⟩, (fun _ => trivial), by decide⟩ wn rfl (fun _ _ => (rv_fieldAddr ff44_2 rfl)) ?_
 refine wg_val (i := 8) (listed' := #[true, true, false, true, true, false, false, true, true, false, false, false]) (HasObj g10 [.int .i64 p0_d.Id, .slice a2 n3 c4, .slice a6 n7 c8]) rfl (by kernel_rfl) (pk_then pk_body) (by kernel_rfl) rfl (by kernel_rfl) (by kernel_rfl) rfl (.inl fun _ h => h.2) ⟨⟨hS19.hasK (KLe.refl _), hS19.hasObj (.tail _ (.head _))⟩, (fun _ => trivial), by decide⟩ wn rfl (fun _ h => rh_loadm1 tf42 rfl rfl h) ?_
 refine wg_many (l := [2, 6]) (by kernel_rfl) rfl ⟨⟨_, rfl, ?_⟩, ⟨_, rfl, ?_⟩, trivial⟩
 ·refine wl_buildSlice0 tGField wn rfl Tryz.underlying41 tf109 hS19 ?_
  intro a57 w58 K59 hl60 hs61 hS62
  refine wl_nil (qe_held (listed' := #[true, true, true, true, true, false, false, true, true, false, false, false]) rfl ⟨⟨hS62.hasK hl60, hS62.hasObj (.tail _ (.tail _ (.head _)))⟩, (fun _ => trivial), by decide⟩ ?_)
  refine wg_many (l := [5, 6]) (by kernel_rfl) rfl ⟨⟨_, rfl, ?_⟩, ⟨_, rfl, ?_⟩, trivial⟩
  ·refine wl_append (t := tGField) wn rfl Tryz.underlying41 tf109 rfl rfl rfl rfl rfl hs61 (SliceAt.mono hl60 hs5) hx27 hS62 ?_
   intro a63 n64 c65 w66 K67 hl68 hs69 hS70
   refine wl_nil (qe_held (listed' := #[true, true, true, true, true, true, false, true, true, false, false, false]) rfl ⟨⟨hS70.hasK (hl60.trans hl68), hS70.hasObj (.tail _ (.tail _ (.head _)))⟩, (fun _ => trivial), by decide⟩ ?_)
   refine wg_one (i := 6) (by kernel_rfl) rfl ?_
   refine wl_buildSlice0 tGAttr wn rfl Tryz.underlying42 tf152 hS70 ?_
   intro a71 w72 K73 hl74 hs75 hS76
   refine wl_nil (qe_held (listed' := #[true, true, true, true, true, true, true, true, true, false, false, false]) rfl ⟨⟨hS76.hasK ((hl60.trans hl68).trans hl74), hS76.hasObj (.tail _ (.tail _ (.tail _ (.head _))))⟩, (fun _ => trivial), by decide⟩ ?_)
   refine wg_one (i := 9) (by kernel_rfl) rfl ?_
   refine wl_append (t := tGAttr) wn rfl Tryz.underlying42 tf152 rfl rfl rfl rfl rfl hs75 (SliceAt.mono ((hl60.trans hl68).trans hl74) hs9) hx44 hS76 ?_
   intro a77 n78 c79 w80 K81 hl82 hs83 hS84
   refine wl_nil (qe_held (listed' := #[true, true, true, true, true, true, true, true, true, true, false, false]) rfl ⟨⟨hS84.hasK (((hl60.trans hl68).trans hl74).trans hl82), hS84.hasObj (.tail _ (.tail _ (.tail _ (.head _))))⟩, (fun _ => trivial), by decide⟩ ?_)
   refine wg_val (i := 10) (listed' := #[true, true, true, true, true, true, true, true, true, true, true, false]) (fun _ => True) rfl (by kernel_rfl) (pk_then pk_body) (by kernel_rfl) rfl (by kernel_rfl) (by kernel_rfl) rfl (.inl fun _ _ => trivial) ⟨⟨hS84.hasK (((hl60.trans hl68).trans hl74).trans hl82), hS84.hasObj (.tail _ (.tail _ (.tail _ (.head _))))⟩, (fun _ => trivial), by decide⟩ wn rfl (fun _ _ => (rv_build (cs := #[.int .i64 p0_d.Id, .slice a63 n64 c65, .slice a77 n78 c79]) sp44 tf44 rfl (by kernel_rfl))) ?_
   refine wg_one (i := 11) (by kernel_rfl) rfl ?_
   have hS85 : SH _ _ _ _ _ [_, _, _, _] := SH.front (p := [_, _]) hS84
   refine wl_store (cs' := [.int .i64 p0_d.Id, .slice a63 n64 c65, .slice a77 n78 c79]) (v := .agg #[.int .i64 p0_d.Id, .slice a63 n64 c65, .slice a77 n78 c79]) wn tf44 rfl rfl rfl (by simp [Value.cells, Value.oneCell']) hS85 rfl rfl ?_
   intro w86 hS87
   refine wl_nil (qe_held (listed' := #[true, true, true, true, true, true, true, true, true, true, true, true]) rfl ⟨⟨hS87.hasK (((hl60.trans hl68).trans hl74).trans hl82), hS87.hasObj (.tail _ (.tail _ (.tail _ (.head _))))⟩, (fun _ => trivial), by decide⟩ ?_)
   refine wg_done (by kernel_rfl) ?_
   refine qe_seq ?_
   refine wc_ret ?_
   obtain rfl := oi h45
   have hS88 : SH _ _ _ _ _ [_, _, _, _] := SH.front (p := [_]) hS87
   have hS89 : SH _ _ _ _ _ [_, _, _, _] := SH.front (p := [_, _]) hS88
   have hS90 : SH _ _ _ _ _ [_, _] := SH.sublist hS89 (.cons_cons _ (.cons_cons _ (.cons _ (.cons _ .slnil))))
   exact qe_ret (vs := [_]) Tryz.results117 ⟨⟨_, _, rfl, run_loadVar_at tf44 (cs := [.int .i64 p0_d.Id, .slice a63 n64 c65, .slice a77 n78 c79]) (fun j c e => by rw [Nat.zero_add, hS87.mem_obj (.head _)]; exact e) (.inl ⟨rfl, rfl, rfl⟩)⟩, trivial⟩ ⟨a63, n64, c65, a77, n78, c79, K81, rfl, hS90, hr1, (SliceAt.mono (hl74.trans hl82) hs69), hs83⟩
  ·refine wl_buildSlice0 tGAttr wn rfl Tryz.underlying42 tf152 hS62 ?_
   intro a91 w92 K93 hl94 hs95 hS96
   refine wl_nil (qe_held (listed' := #[true, true, true, true, true, false, true, true, true, false, false, false]) rfl ⟨⟨hS96.hasK (hl60.trans hl94), hS96.hasObj (.tail _ (.tail _ (.tail _ (.head _))))⟩, (fun _ => trivial), by decide⟩ ?_)
   refine wg_one (i := 5) (by kernel_rfl) rfl ?_
   have hS97 : SH _ _ _ _ _ [_, _, _, _] := SH.front (p := [_]) hS96
   refine wl_append (t := tGField) wn rfl Tryz.underlying41 tf109 rfl rfl rfl rfl rfl (SliceAt.mono hl94 hs61) (SliceAt.mono (hl60.trans hl94) hs5) hx27 hS97 ?_
   intro a98 n99 c100 w101 K102 hl103 hs104 hS105
   refine wl_nil (qe_held (listed' := #[true, true, true, true, true, true, true, true, true, false, false, false]) rfl ⟨⟨hS105.hasK ((hl60.trans hl94).trans hl103), hS105.hasObj (.tail _ (.tail _ (.tail _ (.head _))))⟩, (fun _ => trivial), by decide⟩ ?_)
   refine wg_one (i := 9) (by kernel_rfl) rfl ?_
   have hS106 : SH _ _ _ _ _ [_, _, _, _] := SH.front (p := [_]) hS105
   refine wl_append (t := tGAttr) wn rfl Tryz.underlying42 tf152 rfl rfl rfl rfl rfl (SliceAt.mono hl103 hs95) (SliceAt.mono ((hl60.trans hl94).trans hl103) hs9) hx44 hS106 ?_
   intro a107 n108 c109 w110 K111 hl112 hs113 hS114
   refine wl_nil (qe_held (listed' := #[true, true, true, true, true, true, true, true, true, true, false, false]) rfl ⟨⟨hS114.hasK (((hl60.trans hl94).trans hl103).trans hl112), hS114.hasObj (.tail _ (.tail _ (.tail _ (.head _))))⟩, (fun _ => trivial), by decide⟩ ?_)
   refine wg_val (i := 10) (listed' := #[true, true, true, true, true, true, true, true, true, true, true, false]) (fun _ => True) rfl (by kernel_rfl) (pk_then pk_body) (by kernel_rfl) rfl (by kernel_rfl) (by kernel_rfl) rfl (.inl fun _ _ => trivial) ⟨⟨hS114.hasK (((hl60.trans hl94).trans hl103).trans hl112), hS114.hasObj (.tail _ (.tail _ (.tail _ (.head _))))⟩, (fun _ => trivial), by decide⟩ wn rfl (fun _ _ => (rv_build (cs := #[.int .i64 p0_d.Id, .slice a98 n99 c100, .slice a107 n108 c109]) sp44 tf44 rfl (by kernel_rfl))) ?_
   refine wg_one (i := 11) (by kernel_rfl) rfl ?_
   have hS115 : SH _ _ _ _ _ [_, _, _, _] := SH.front (p := [_, _]) hS114
   refine wl_store (cs' := [.int .i64 p0_d.Id, .slice a98 n99 c100, .slice a107 n108 c109]) (v := .agg #[.int .i64 p0_d.Id, .slice a98 n99 c100, .slice a107 n108 c109]) wn tf44 rfl rfl rfl (by simp [Value.cells, Value.oneCell']) hS115 rfl rfl ?_
   intro w116 hS117
   refine wl_nil (qe_held (listed' := #[true, true, true, true, true, true, true, true, true, true, true, true]) rfl ⟨⟨hS117.hasK (((hl60.trans hl94).trans hl103).trans hl112), hS117.hasObj (.tail _ (.tail _ (.tail _ (.head _))))⟩, (fun _ => trivial), by decide⟩ ?_)
   refine wg_done (by kernel_rfl) ?_
   refine qe_seq ?_
   refine wc_ret ?_
   obtain rfl := oi h45
   have hS118 : SH _ _ _ _ _ [_, _, _, _] := SH.front (p := [_]) hS117
   have hS119 : SH _ _ _ _ _ [_, _, _, _] := SH.front (p := [_, _]) hS118
   have hS120 : SH _ _ _ _ _ [_, _] := SH.sublist hS119 (.cons_cons _ (.cons_cons _ (.cons _ (.cons _ .slnil))))
   exact qe_ret (vs := [_]) Tryz.results117 ⟨⟨_, _, rfl, run_loadVar_at tf44 (cs := [.int .i64 p0_d.Id, .slice a98 n99 c100, .slice a107 n108 c109]) (fun j c e => by rw [Nat.zero_add, hS117.mem_obj (.head _)]; exact e) (.inl ⟨rfl, rfl, rfl⟩)⟩, trivial⟩ ⟨a98, n99, c100, a107, n108, c109, K111, rfl, hS120, hr1, (SliceAt.mono hl112 hs104), hs113⟩
 ·refine wl_buildSlice0 tGAttr wn rfl Tryz.underlying42 tf152 hS19 ?_
  intro a121 w122 K123 hl124 hs125 hS126
  refine wl_nil (qe_held (listed' := #[true, true, false, true, true, false, true, true, true, false, false, false]) rfl ⟨⟨hS126.hasK hl124, hS126.hasObj (.tail _ (.tail _ (.head _)))⟩, (fun _ => trivial), by decide⟩ ?_)
  refine wg_one (i := 2) (by kernel_rfl) rfl ?_
  refine wl_buildSlice0 tGField wn rfl Tryz.underlying41 tf109 hS126 ?_
  intro a127 w128 K129 hl130 hs131 hS132
  refine wl_nil (qe_held (listed' := #[true, true, true, true, true, false, true, true, true, false, false, false]) rfl ⟨⟨hS132.hasK (hl124.trans hl130), hS132.hasObj (.tail _ (.tail _ (.tail _ (.head _))))⟩, (fun _ => trivial), by decide⟩ ?_)
  refine wg_one (i := 5) (by kernel_rfl) rfl ?_
  refine wl_append (t := tGField) wn rfl Tryz.underlying41 tf109 rfl rfl rfl rfl rfl hs131 (SliceAt.mono (hl124.trans hl130) hs5) hx27 hS132 ?_
  intro a133 n134 c135 w136 K137 hl138 hs139 hS140
  refine wl_nil (qe_held (listed' := #[true, true, true, true, true, true, true, true, true, false, false, false]) rfl ⟨⟨hS140.hasK ((hl124.trans hl130).trans hl138), hS140.hasObj (.tail _ (.tail _ (.tail _ (.head _))))⟩, (fun _ => trivial), by decide⟩ ?_)
  refine wg_one (i := 9) (by kernel_rfl) rfl ?_
  have hS141 : SH _ _ _ _ _ [_, _, _, _] := SH.front (p := [_]) hS140
  refine wl_append (t := tGAttr) wn rfl Tryz.underlying42 tf152 rfl rfl rfl rfl rfl (SliceAt.mono (hl130.trans hl138) hs125) (SliceAt.mono ((hl124.trans hl130).trans hl138) hs9) hx44 hS141 ?_
  intro a142 n143 c144 w145 K146 hl147 hs148 hS149
  refine wl_nil (qe_held (listed' := #[true, true, true, true, true, true, true, true, true, true, false, false]) rfl ⟨⟨hS149.hasK (((hl124.trans hl130).trans hl138).trans hl147), hS149.hasObj (.tail _ (.tail _ (.tail _ (.head _))))⟩, (fun _ => trivial), by decide⟩ ?_)
  refine wg_val (i := 10) (listed' := #[true, true, true, true, true, true, true, true, true, true, true, false]) (fun _ => True) rfl (by kernel_rfl) (pk_then pk_body) (by kernel_rfl) rfl (by kernel_rfl) (by kernel_rfl) rfl (.inl fun _ _ => trivial) ⟨⟨hS149.hasK (((hl124.trans hl130).trans hl138).trans hl147), hS149.hasObj (.tail _ (.tail _ (.tail _ (.head _))))⟩, (fun _ => trivial), by decide⟩ wn rfl (fun _ _ => (rv_build (cs := #[.int .i64 p0_d.Id, .slice a133 n134 c135, .slice a142 n143 c144]) sp44 tf44 rfl (by kernel_rfl))) ?_
  refine wg_one (i := 11) (by kernel_rfl) rfl ?_
  have hS150 : SH _ _ _ _ _ [_, _, _, _] := SH.front (p := [_, _]) hS149
  refine wl_store (cs' := [.int .i64 p0_d.Id, .slice a133 n134 c135, .slice a142 n143 c144]) (v := .agg #[.int .i64 p0_d.Id, .slice a133 n134 c135, .slice a142 n143 c144]) wn tf44 rfl rfl rfl (by simp [Value.cells, Value.oneCell']) hS150 rfl rfl ?_
  intro w151 hS152
  refine wl_nil (qe_held (listed' := #[true, true, true, true, true, true, true, true, true, true, true, true]) rfl ⟨⟨hS152.hasK (((hl124.trans hl130).trans hl138).trans hl147), hS152.hasObj (.tail _ (.tail _ (.tail _ (.head _))))⟩, (fun _ => trivial), by decide⟩ ?_)
  refine wg_done (by kernel_rfl) ?_
  refine qe_seq ?_
  refine wc_ret ?_
  obtain rfl := oi h45
  have hS153 : SH _ _ _ _ _ [_, _, _, _] := SH.front (p := [_]) hS152
  have hS154 : SH _ _ _ _ _ [_, _, _, _] := SH.front (p := [_, _]) hS153
  have hS155 : SH _ _ _ _ _ [_, _] := SH.sublist hS154 (.cons_cons _ (.cons_cons _ (.cons _ (.cons _ .slnil))))
  exact qe_ret (vs := [_]) Tryz.results117 ⟨⟨_, _, rfl, run_loadVar_at tf44 (cs := [.int .i64 p0_d.Id, .slice a133 n134 c135, .slice a142 n143 c144]) (fun j c e => by rw [Nat.zero_add, hS152.mem_obj (.head _)]; exact e) (.inl ⟨rfl, rfl, rfl⟩)⟩, trivial⟩ ⟨a133, n134, c135, a142, n143, c144, K146, rfl, hS155, hr1, (SliceAt.mono hl147 hs139), hs148⟩

set_option maxHeartbeats 2000000 in
theorem ok_spec_l7Of (F : Nat) {w : World} {K : KMap} {a1 : Option Addr} {n2 c3 : Nat} {a5 : Option Addr} {n6 c7 : Nat} {a9 : Option Addr} {n10 c11 : Nat} {p0_c : GConf} {p1_docs : List GDoc} {r : GSeg} (hS : SH w K [] w K []) (hs4 : SliceAt tStr K a1 n2 c3 p0_c.Stops) (hs8 : SliceAt tGSyn K a5 n6 c7 p0_c.Syns) (hs12 : SliceAt tGDoc K a9 n10 c11 p1_docs) (hm : M.spec_l7Of F p0_c p1_docs = some r) :
  Calls Tryz.prog 66 #[.agg #[.slice a1 n2 c3, .slice a5 n6 c7], .slice a9 n10 c11] w fun e w' => ∃ (a_1 : Option Addr) (n_2 c_3 : Nat) (a_5 : Option Addr) (n_6 c_7 : Nat) (cs_8 : List Value) (K' : KMap), e = .returned (.agg #[.slice a_1 n_2 c_3, .slice a_5 n_6 c_7]) ∧ SH w K [] w' K' [tail (.slice a_1 n_2 c_3) 44 3, rowI (.slice a_5 n_6 c_7) cs_8 94 3] ∧ SliceAt tGDoc K' a_1 n_2 c_3 r.Docs ∧ RowAt true tGEntry K' cs_8 r.Entries ∧ n_6 = r.Entries.length := by
 rw [M.spec_l7Of] at hm
 refine calls_in Tryz.func66 rfl Tryz.ntmps66 rfl ?_
 refine sr ?_
 refine wl_box wn rfl rfl hS ?_
 intro g13 w14 hS15
 have hS16 : SH _ _ _ _ _ [obj g13 [.slice a1 n2 c3, .slice a5 n6 c7] 26] := hS15
 refine wl_alloc wn rfl tf30 hS16 ?_
 intro g17 w18 hS19
 have hS20 : SH _ _ _ _ _ [obj g17 [.slice none 0 0, .slice none 0 0] 30, _] := hS19
 refine nr ?_
 refine wl_val wn rfl (rv_build (cs := #[.slice none 0 0, .slice none 0 0]) sp30 tf30 rfl (by kernel_rfl)) ?_
 refine wl_alloc wn rfl tf30 hS20 ?_
 intro g21 w22 hS23
 have hS24 : SH _ _ _ _ _ [obj g21 [.slice none 0 0, .slice none 0 0] 30, _, _] := hS23
 refine wl_store (cs' := [.slice none 0 0, .slice none 0 0]) (v := .agg #[.slice none 0 0, .slice none 0 0]) wn tf30 rfl rfl rfl (by simp [Value.cells, Value.oneCell']) hS24 rfl rfl ?_
 intro w25 hS26
 refine nr ?_
 refine vm rfl rfl ?_
 obtain ⟨r27, hx28, h29⟩ := ob hm
 refine wl_call wn rfl (rt_call (vs := [.slice a9 n10 c11]) co114 rfl) ((ok_spec_l7Names F) hS26.enter0 hs12 hx28) ?_
 rintro e37 w31 ⟨a33, n34, c35, K30, rfl, hS32, hs36⟩
 refine ⟨_, rfl, ?_⟩
 have hS38 : SH _ _ _ _ _ [_, _, _, _] := SH.call0 hS26 hS32
 refine va rfl rfl ?_
 refine nsr ?_
 refine wl_val wn rfl (rv_assign (v := .int .i64 0) rfl) ?_
 refine nq ?_
 obtain ⟨o39, h40, h41⟩ := ob h29
 refine wc_cutg (fun E' w' => ∃ (a46 : Option Addr) (n47 c48 : Nat) (a50 : Option Addr) (n51 c52 : Nat) (cs53 : List Value) (K42 : KMap), E' = [(1, .slice a9 n10 c11), (4, .pointer (some ⟨g17, 0, none⟩)), (5, .pointer (some ⟨g21, 0, none⟩))] ∧ SH w K [] w' K42 [obj g17 [.slice none 0 0, .slice none 0 0] 30, obj g21 [.slice a46 n47 c48, .slice a50 n51 c52] 30, rowI (.slice a50 n51 c52) cs53 94 3, tail (.slice a46 n47 c48) 44 3] ∧ KLe K30 K42 ∧ SliceAt tGDoc K42 a46 n47 c48 o39.Docs ∧ RowAt true tGEntry K42 cs53 o39.Entries ∧ n51 = o39.Entries.length) ?_ ?_
 ·refine wc_block ?_
  obtain ⟨r57, h58, h59⟩ := ob h40
  have hS75 := SH.rowNil hS38 94 3
  have hS76 := SH.nil hS75 44 3
  have hS77 : SH _ _ _ _ _ [_, _, _, _, _, _] := SH.front (p := [_]) hS76
  have hS78 : SH _ _ _ _ _ [_, _, _, _, _, _] := SH.front (p := [_, _, _]) hS77
  have hS79 : SH _ _ _ _ _ [_, _, _, _, _, _] := SH.front (p := [_, _, _, _]) hS78
  have hS80 : SH _ _ _ _ _ [_, _, _, _, _, _] := SH.front (p := [_, _, _, _, _]) hS79
  have hS81 : SH _ _ _ _ _ [_, _, _, _, _] := SH.sublist hS80 (.cons_cons _ (.cons_cons _ (.cons_cons _ (.cons_cons _ (.cons_cons _ (.cons _ .slnil))))))
  refine wc_while' (fun (s56 : Int × GSeg) E' w' => ∃ (a65 : Option Addr) (n66 c67 : Nat) (a69 : Option Addr) (n70 c71 : Nat) (cs72 : List Value) (K60 : KMap), E' = [(1, .slice a9 n10 c11), (2, .pointer (some ⟨g13, 0, none⟩)), (4, .pointer (some ⟨g17, 0, none⟩)), (5, .pointer (some ⟨g21, 0, none⟩)), (6, .slice a33 n34 c35), (7, .int .i64 s56.1)] ∧ SH w K [] w' K60 [obj g13 [.slice a1 n2 c3, .slice a5 n6 c7] 26, obj g17 [.slice none 0 0, .slice none 0 0] 30, obj g21 [.slice a65 n66 c67, .slice a69 n70 c71] 30, rowI (.slice a69 n70 c71) cs72 94 3, tail (.slice a65 n66 c67) 44 3] ∧ KLe K30 K60 ∧ rng64 s56.1 ∧ SliceAt tGDoc K60 a65 n66 c67 s56.2.Docs ∧ RowAt true tGEntry K60 cs72 s56.2.Entries ∧ n70 = s56.2.Entries.length) h58 ⟨none, 0, 0, none, 0, 0, [], K30, rfl, hS81, (KLe.refl _), (by decide : rng64 0), (SliceAt.nil _ _), (RowAt.nil tGEntry _), rfl⟩ ⟨rfl, rfl, rfl, rfl, rfl, rfl, trivial⟩ ?_
  rintro s56 _ w62 r82 h83 hx84 ⟨a65, n66, c67, a69, n70, c71, cs72, K60, rfl, hS63, hl61, hr64, hs68, hrow73, hm74⟩
  refine wc_seq ?_
  refine sr ?_
  refine vm rfl rfl ?_
  refine vm rfl rfl ?_
  refine wl_val wn rfl (rv_len (t := tStr) Tryz.underlying23 rfl (SliceAt.mono hl61 hs36)) ?_
  refine wl_val wn rfl (rv_lss rfl rfl) ?_
  refine nq ?_
  refine wc_cond rfl (fun hb85 => ?_) (fun hb85 => ?_)
  ·have h86 := cond_t hb85 h83
   refine wc_skip ?_
   refine qs ?_
   refine wc_block ?_
   refine wc_seq ?_
   refine wc_held (fun w' => Holds K60 w' ∧ HasObj g13 [.slice a1 n2 c3, .slice a5 n6 c7] w') (fun w' => True) 8 [] mixed ?_
   have hS88 := SH.drew hS63
   refine wg_val (i := 0) (listed' := #[true, false, false, false, false, false, false, false]) (HasObj g13 [.slice a1 n2 c3, .slice a5 n6 c7]) rfl (by kernel_rfl) (pk_then (pk_block (pk_then (pk_then (pk_block (pk_then (pk_then pk_body))))))) (by kernel_rfl) rfl (by kernel_rfl) (by kernel_rfl) rfl (.inl fun _ h => h.2) ⟨⟨hS88.hasK (KLe.refl _), hS88.hasObj (.head _)⟩, (fun _ => trivial), by decide⟩ wn rfl (fun _ h => rh_loadmS (ds := [.slice a1 n2 c3, .slice a5 n6 c7]) tf26 rfl rfl rfl h) ?_
   refine wg_val (i := 1) (listed' := #[true, true, false, false, false, false, false, false]) (fun _ => True) rfl (by kernel_rfl) (pk_then (pk_block (pk_then (pk_then (pk_block (pk_then (pk_then pk_body))))))) (by kernel_rfl) rfl (by kernel_rfl) (by kernel_rfl) rfl (.inl fun _ _ => trivial) ⟨⟨hS88.hasK (KLe.refl _), hS88.hasObj (.head _)⟩, (fun _ => trivial), by decide⟩ wn rfl (fun _ _ => (rv_move rfl)) ?_
   refine wg_val (i := 2) (listed' := #[true, true, true, false, false, false, false, false]) (fun _ => True) rfl (by kernel_rfl) (pk_then (pk_block (pk_then (pk_then (pk_block (pk_then (pk_then pk_body))))))) (by kernel_rfl) rfl (by kernel_rfl) (by kernel_rfl) rfl (.inl fun _ _ => trivial) ⟨⟨hS88.hasK (KLe.refl _), hS88.hasObj (.head _)⟩, (fun _ => trivial), by decide⟩ wn rfl (fun _ _ => (rv_move rfl)) ?_
   refine wg_val (i := 3) (listed' := #[true, true, true, true, false, false, false, false]) (fun _ => True) rfl (by kernel_rfl) (pk_then (pk_block (pk_then (pk_then (pk_block (pk_then (pk_then pk_body))))))) (by kernel_rfl) rfl (by kernel_rfl) (by kernel_rfl) rfl (.inl fun _ _ => trivial) ⟨⟨hS88.hasK (KLe.refl _), hS88.hasObj (.head _)⟩, (fun _ => trivial), by decide⟩ wn rfl (fun _ _ => (rv_move rfl)) ?_
   obtain ⟨x89, hx90, h91⟩ := ob h86
   refine wg_indexAddr (t := tStr) (j := 4) (listed' := #[true, true, true, true, true, false, false, false]) rfl (by kernel_rfl) (pk_then (pk_block (pk_then (pk_then (pk_block (pk_then (pk_then pk_body))))))) (by kernel_rfl) rfl (by kernel_rfl) (by kernel_rfl) rfl ⟨⟨hS88.hasK (KLe.refl _), hS88.hasObj (.head _)⟩, (fun _ => trivial), by decide⟩ wn rfl Tryz.underlying23 tf9 rfl rfl (SliceAt.mono hl61 hs36) hx90 ?_
   intro b92 o93 u94 hu95 ha96
   obtain ⟨rfl, hl97⟩ := hu95
   have ha98 : AtK _ b92 o93 [sv x89] := ha96
   refine wg_val (i := 5) (listed' := #[true, true, true, true, true, true, false, false]) (Holds K60) rfl (by kernel_rfl) (pk_then (pk_block (pk_then (pk_then (pk_block (pk_then (pk_then pk_body))))))) (by kernel_rfl) rfl (by kernel_rfl) (by kernel_rfl) rfl (.inl fun _ h => h.1) ⟨⟨hS88.hasK (KLe.refl _), hS88.hasObj (.head _)⟩, (fun _ => trivial), by decide⟩ wn rfl (fun _ h => rh_load1 tf9 rfl (ha98 0 _ rfl) h) ?_
   refine wg_one (i := 6) (by kernel_rfl) rfl ?_
   obtain ⟨r99, hx100, h101⟩ := ob h91
   refine wl_call wn rfl (rt_call (vs := [.agg #[.slice a1 n2 c3, .slice a5 n6 c7], .slice a9 n10 c11, sv x89]) co115 rfl) ((ok_spec_l7Terms F) hS88.enter0 (SliceAt.mono (hS32.le.trans hl61) hs4) (SliceAt.mono (hS32.le.trans hl61) hs8) (SliceAt.mono (hS32.le.trans hl61) hs12) hl97 hx100) ?_
   rintro e109 w103 ⟨a105, n106, c107, K102, rfl, hS104, hs108⟩
   refine ⟨_, rfl, ?_⟩
   have hS110 : SH _ _ _ _ _ [_, _, _, _, _, _] := SH.call0 hS88 hS104
   refine wl_nil (qe_held (listed' := #[true, true, true, true, true, true, true, false]) rfl ⟨⟨hS110.hasK hS104.le, hS110.hasObj (.tail _ (.head _))⟩, (fun _ => trivial), by decide⟩ ?_)
   refine wg_val (i := 7) (listed' := #[true, true, true, true, true, true, true, true]) (fun _ => True) rfl (by kernel_rfl) (pk_then (pk_block (pk_then (pk_then (pk_block (pk_then (pk_then pk_body))))))) (by kernel_rfl) rfl (by kernel_rfl) (by kernel_rfl) rfl (.inl fun _ _ => trivial) ⟨⟨hS110.hasK hS104.le, hS110.hasObj (.tail _ (.head _))⟩, (fun _ => trivial), by decide⟩ wn rfl (fun _ _ => (rv_assign rfl)) ?_
   refine wg_done (by kernel_rfl) ?_
   refine qr ?_
   refine wl_val wn rfl (rv_assign (v := .int .i64 0) rfl) ?_
   refine nq ?_
   obtain ⟨o111, h112, h113⟩ := ob h101
   refine wc_cutg (fun E' w' => ∃ (a118 : Option Addr) (n119 c120 : Nat) (a122 : Option Addr) (n123 c124 : Nat) (cs125 : List Value) (K114 : KMap), E' = [(1, .slice a9 n10 c11), (2, .pointer (some ⟨g13, 0, none⟩)), (4, .pointer (some ⟨g17, 0, none⟩)), (5, .pointer (some ⟨g21, 0, none⟩)), (6, .slice a33 n34 c35), (7, .int .i64 s56.1)] ∧ SH w K [] w' K114 [obj g13 [.slice a1 n2 c3, .slice a5 n6 c7] 26, obj g17 [.slice none 0 0, .slice none 0 0] 30, obj g21 [.slice a118 n119 c120, .slice a122 n123 c124] 30, rowI (.slice a122 n123 c124) cs125 94 3, tail (.slice a118 n119 c120) 44 3] ∧ KLe K102 K114 ∧ SliceAt tGDoc K114 a118 n119 c120 o111.Docs ∧ RowAt true tGEntry K114 cs125 o111.Entries ∧ n123 = o111.Entries.length) ?_ ?_
   ·refine wc_block ?_
    obtain ⟨r129, h130, h131⟩ := ob h112
    have hS147 : SH _ _ _ _ _ [_, _, _, _, _] := SH.sublist hS110 (.cons _ (.cons_cons _ (.cons_cons _ (.cons_cons _ (.cons_cons _ (.cons_cons _ .slnil))))))
    refine wc_while' (fun (s128 : Int × GSeg) E' w' => ∃ (a137 : Option Addr) (n138 c139 : Nat) (a141 : Option Addr) (n142 c143 : Nat) (cs144 : List Value) (K132 : KMap), E' = [(1, .slice a9 n10 c11), (2, .pointer (some ⟨g13, 0, none⟩)), (4, .pointer (some ⟨g17, 0, none⟩)), (5, .pointer (some ⟨g21, 0, none⟩)), (6, .slice a33 n34 c35), (7, .int .i64 s56.1), (8, .slice a105 n106 c107), (9, .int .i64 s128.1)] ∧ SH w K [] w' K132 [obj g13 [.slice a1 n2 c3, .slice a5 n6 c7] 26, obj g17 [.slice none 0 0, .slice none 0 0] 30, obj g21 [.slice a137 n138 c139, .slice a141 n142 c143] 30, rowI (.slice a141 n142 c143) cs144 94 3, tail (.slice a137 n138 c139) 44 3] ∧ KLe K102 K132 ∧ rng64 s128.1 ∧ SliceAt tGDoc K132 a137 n138 c139 s128.2.Docs ∧ RowAt true tGEntry K132 cs144 s128.2.Entries ∧ n142 = s128.2.Entries.length) h130 ⟨a65, n66, c67, a69, n70, c71, cs72, K102, rfl, hS147, (KLe.refl _), (by decide : rng64 0), (SliceAt.mono hS104.le hs68), (RowAt.mono hS104.le hrow73), hm74⟩ ⟨rfl, rfl, rfl, rfl, rfl, rfl, rfl, rfl, trivial⟩ ?_
    rintro s128 _ w134 r148 h149 hx150 ⟨a137, n138, c139, a141, n142, c143, cs144, K132, rfl, hS135, hl133, hr136, hs140, hrow145, hm146⟩
    refine wc_seq ?_
    refine sr ?_
    refine vm rfl rfl ?_
    refine vm rfl rfl ?_
    refine wl_val wn rfl (rv_len (t := tStr) Tryz.underlying23 rfl (SliceAt.mono hl133 hs108)) ?_
    refine wl_val wn rfl (rv_lss rfl rfl) ?_
    refine nq ?_
    refine wc_cond rfl (fun hb151 => ?_) (fun hb151 => ?_)
    ·have h152 := cond_t hb151 h149
     refine wc_skip ?_
     refine qs ?_
     refine wc_block ?_
     refine wc_held (fun w' => Holds K132 w' ∧ HasObj g13 [.slice a1 n2 c3, .slice a5 n6 c7] w') (fun w' => HasObj g21 [.slice a137 n138 c139, .slice a141 n142 c143] w') 16 [(1, 14), (1, 15), (1, 16), (14, 15), (14, 16), (15, 16)] mixed ?_
     have hS154 := SH.drew hS135
     refine wg_val (i := 0) (listed' := #[true, false, false, false, false, false, false, false, false, false, false, false, false, false, false, false, false]) (fun _ => True) rfl (by kernel_rfl) (pk_block (pk_then (pk_then (pk_block (pk_then (pk_block (pk_then (pk_then (pk_block (pk_then (pk_then pk_body))))))))))) (by kernel_rfl) rfl (by kernel_rfl) (by kernel_rfl) rfl (.inl fun _ _ => trivial) ⟨⟨hS154.hasK (KLe.refl _), hS154.hasObj (.head _)⟩, (fun _ => hS154.hasObj (.tail _ (.tail _ (.head _)))), by decide⟩ wn rfl (fun _ _ => (rv_fieldAddr ff30_1 rfl)) ?_
     refine wg_val (i := 1) (listed' := #[true, true, false, false, false, false, false, false, false, false, false, false, false, false, false, false, false]) (HasObj g21 [.slice a137 n138 c139, .slice a141 n142 c143]) rfl (by kernel_rfl) (pk_block (pk_then (pk_then (pk_block (pk_then (pk_block (pk_then (pk_then (pk_block (pk_then (pk_then pk_body))))))))))) (by kernel_rfl) rfl (by kernel_rfl) (by kernel_rfl) rfl (.inr ⟨rfl, fun _ _ h => h⟩) ⟨⟨hS154.hasK (KLe.refl _), hS154.hasObj (.head _)⟩, (fun _ => hS154.hasObj (.tail _ (.tail _ (.head _)))), by decide⟩ wn rfl (fun _ h => rh_loadm1 tf28 rfl rfl h) ?_
     refine wg_val (i := 2) (listed' := #[true, true, true, false, false, false, false, false, false, false, false, false, false, false, false, false, false]) (HasObj g13 [.slice a1 n2 c3, .slice a5 n6 c7]) rfl (by kernel_rfl) (pk_block (pk_then (pk_then (pk_block (pk_then (pk_block (pk_then (pk_then (pk_block (pk_then (pk_then pk_body))))))))))) (by kernel_rfl) rfl (by kernel_rfl) (by kernel_rfl) rfl (.inl fun _ h => h.2) ⟨⟨hS154.hasK (KLe.refl _), hS154.hasObj (.head _)⟩, (fun _ => hS154.hasObj (.tail _ (.tail _ (.head _)))), by decide⟩ wn rfl (fun _ h => rh_loadmS (ds := [.slice a1 n2 c3, .slice a5 n6 c7]) tf26 rfl rfl rfl h) ?_
     refine wg_val (i := 3) (listed' := #[true, true, true, true, false, false, false, false, false, false, false, false, false, false, false, false, false]) (fun _ => True) rfl (by kernel_rfl) (pk_block (pk_then (pk_then (pk_block (pk_then (pk_block (pk_then (pk_then (pk_block (pk_then (pk_then pk_body))))))))))) (by kernel_rfl) rfl (by kernel_rfl) (by kernel_rfl) rfl (.inl fun _ _ => trivial) ⟨⟨hS154.hasK (KLe.refl _), hS154.hasObj (.head _)⟩, (fun _ => hS154.hasObj (.tail _ (.tail _ (.head _)))), by decide⟩ wn rfl (fun _ _ => (rv_move rfl)) ?_
     refine wg_val (i := 4) (listed' := #[true, true, true, true, true, false, false, false, false, false, false, false, false, false, false, false, false]) (fun _ => True) rfl (by kernel_rfl) (pk_block (pk_then (pk_then (pk_block (pk_then (pk_block (pk_then (pk_then (pk_block (pk_then (pk_then pk_body))))))))))) (by kernel_rfl) rfl (by kernel_rfl) (by kernel_rfl) rfl (.inl fun _ _ => trivial) ⟨⟨hS154.hasK (KLe.refl _), hS154.hasObj (.head _)⟩, (fun _ => hS154.hasObj (.tail _ (.tail _ (.head _)))), by decide⟩ wn rfl (fun _ _ => (rv_move rfl)) ?_
     refine wg_val (i := 5) (listed' := #[true, true, true, true, true, true, false, false, false, false, false, false, false, false, false, false, false]) (fun _ => True) rfl (by kernel_rfl) (pk_block (pk_then (pk_then (pk_block (pk_then (pk_block (pk_then (pk_then (pk_block (pk_then (pk_then pk_body))))))))))) (by kernel_rfl) rfl (by kernel_rfl) (by kernel_rfl) rfl (.inl fun _ _ => trivial) ⟨⟨hS154.hasK (KLe.refl _), hS154.hasObj (.head _)⟩, (fun _ => hS154.hasObj (.tail _ (.tail _ (.head _)))), by decide⟩ wn rfl (fun _ _ => (rv_move rfl)) ?_
     obtain ⟨x155, hx156, h157⟩ := ob h152
     refine wg_indexAddr (t := tStr) (j := 6) (listed' := #[true, true, true, true, true, true, true, false, false, false, false, false, false, false, false, false, false]) rfl (by kernel_rfl) (pk_block (pk_then (pk_then (pk_block (pk_then (pk_block (pk_then (pk_then (pk_block (pk_then (pk_then pk_body))))))))))) (by kernel_rfl) rfl (by kernel_rfl) (by kernel_rfl) rfl ⟨⟨hS154.hasK (KLe.refl _), hS154.hasObj (.head _)⟩, (fun _ => hS154.hasObj (.tail _ (.tail _ (.head _)))), by decide⟩ wn rfl Tryz.underlying23 tf9 rfl rfl (SliceAt.mono ((hl61.trans hS104.le).trans hl133) hs36) hx156 ?_
     intro b158 o159 u160 hu161 ha162
     obtain ⟨rfl, hl163⟩ := hu161
     have ha164 : AtK _ b158 o159 [sv x155] := ha162
     refine wg_val (i := 7) (listed' := #[true, true, true, true, true, true, true, true, false, false, false, false, false, false, false, false, false]) (Holds K132) rfl (by kernel_rfl) (pk_block (pk_then (pk_then (pk_block (pk_then (pk_block (pk_then (pk_then (pk_block (pk_then (pk_then pk_body))))))))))) (by kernel_rfl) rfl (by kernel_rfl) (by kernel_rfl) rfl (.inl fun _ h => h.1) ⟨⟨hS154.hasK (KLe.refl _), hS154.hasObj (.head _)⟩, (fun _ => hS154.hasObj (.tail _ (.tail _ (.head _)))), by decide⟩ wn rfl (fun _ h => rh_load1 tf9 rfl (ha164 0 _ rfl) h) ?_
     refine wg_val (i := 8) (listed' := #[true, true, true, true, true, true, true, true, true, false, false, false, false, false, false, false, false]) (fun _ => True) rfl (by kernel_rfl) (pk_block (pk_then (pk_then (pk_block (pk_then (pk_block (pk_then (pk_then (pk_block (pk_then (pk_then pk_body))))))))))) (by kernel_rfl) rfl (by kernel_rfl) (by kernel_rfl) rfl (.inl fun _ _ => trivial) ⟨⟨hS154.hasK (KLe.refl _), hS154.hasObj (.head _)⟩, (fun _ => hS154.hasObj (.tail _ (.tail _ (.head _)))), by decide⟩ wn rfl (fun _ _ => (rv_move rfl)) ?_
     refine wg_val (i := 9) (listed' := #[true, true, true, true, true, true, true, true, true, true, false, false, false, false, false, false, false]) (fun _ => True) rfl (by kernel_rfl) (pk_block (pk_then (pk_then (pk_block (pk_then (pk_block (pk_then (pk_then (pk_block (pk_then (pk_then pk_body))))))))))) (by kernel_rfl) rfl (by kernel_rfl) (by kernel_rfl) rfl (.inl fun _ _ => trivial) ⟨⟨hS154.hasK (KLe.refl _), hS154.hasObj (.head _)⟩, (fun _ => hS154.hasObj (.tail _ (.tail _ (.head _)))), by decide⟩ wn rfl (fun _ _ => (rv_move rfl)) ?_
     obtain ⟨x165, hx166, h167⟩ := ob h157
     refine wg_indexAddr (t := tStr) (j := 10) (listed' := #[true, true, true, true, true, true, true, true, true, true, true, false, false, false, false, false, false]) rfl (by kernel_rfl) (pk_block (pk_then (pk_then (pk_block (pk_then (pk_block (pk_then (pk_then (pk_block (pk_then (pk_then pk_body))))))))))) (by kernel_rfl) rfl (by kernel_rfl) (by kernel_rfl) rfl ⟨⟨hS154.hasK (KLe.refl _), hS154.hasObj (.head _)⟩, (fun _ => hS154.hasObj (.tail _ (.tail _ (.head _)))), by decide⟩ wn rfl Tryz.underlying23 tf9 rfl rfl (SliceAt.mono hl133 hs108) hx166 ?_
     intro b168 o169 u170 hu171 ha172
     obtain ⟨rfl, hl173⟩ := hu171
     have ha174 : AtK _ b168 o169 [sv x165] := ha172
     refine wg_val (i := 11) (listed' := #[true, true, true, true, true, true, true, true, true, true, true, true, false, false, false, false, false]) (Holds K132) rfl (by kernel_rfl) (pk_block (pk_then (pk_then (pk_block (pk_then (pk_block (pk_then (pk_then (pk_block (pk_then (pk_then pk_body))))))))))) (by kernel_rfl) rfl (by kernel_rfl) (by kernel_rfl) rfl (.inl fun _ h => h.1) ⟨⟨hS154.hasK (KLe.refl _), hS154.hasObj (.head _)⟩, (fun _ => hS154.hasObj (.tail _ (.tail _ (.head _)))), by decide⟩ wn rfl (fun _ h => rh_load1 tf9 rfl (ha174 0 _ rfl) h) ?_
     refine wg_one (i := 12) (by kernel_rfl) rfl ?_
     obtain ⟨r175, hx176, h177⟩ := ob h167
     refine wl_call wn rfl (rt_call (vs := [.agg #[.slice a1 n2 c3, .slice a5 n6 c7], .slice a9 n10 c11, sv x155, sv x165]) co116 rfl) ((ok_spec_l7Entry F) hS154.enter0 (SliceAt.mono (((hS32.le.trans hl61).trans hS104.le).trans hl133) hs4) (SliceAt.mono (((hS32.le.trans hl61).trans hS104.le).trans hl133) hs8) (SliceAt.mono (((hS32.le.trans hl61).trans hS104.le).trans hl133) hs12) hl163 hl173 hx176) ?_
     rintro e187 w179 ⟨a183, n184, c185, K178, rfl, hS180, hl181, hl182, hs186⟩
     refine ⟨_, rfl, ?_⟩
     have hS188 : SH _ _ _ _ _ [_, _, _, _, _, _] := SH.call0 hS154 hS180
     refine wl_nil (qe_held (listed' := #[true, true, true, true, true, true, true, true, true, true, true, true, true, false, false, false, false]) rfl ⟨⟨hS188.hasK hS180.le, hS188.hasObj (.tail _ (.head _))⟩, (fun _ => hS188.hasObj (.tail _ (.tail _ (.tail _ (.head _))))), by decide⟩ ?_)
     refine wg_one (i := 13) (by kernel_rfl) rfl ?_
     refine wl_buildSlice (t := tGEntry) (n := 1) (pv := [(0, .agg #[sv r175.Field, sv r175.Term, .slice a183 n184 c185])]) (cs := [sv r175.Field, sv r175.Term, .slice a183 n184 c185]) (xs := [r175]) wn rfl Tryz.underlying28 tf94 rfl rfl rfl (by kernel_rfl) rfl rfl (lit_cons (u := .agg #[sv r175.Field, sv r175.Term, .slice a183 n184 c185]) (z := r175) ⟨a183, n184, c185, rfl, hl181, hl182, hs186⟩ lit_nil) hS188 ?_
     intro a189 w190 K191 hl192 hs193 hS194
     refine wl_nil (qe_held (listed' := #[true, true, true, true, true, true, true, true, true, true, true, true, true, true, false, false, false]) rfl ⟨⟨hS194.hasK (hS180.le.trans hl192), hS194.hasObj (.tail _ (.tail _ (.head _)))⟩, (fun _ => hS194.hasObj (.tail _ (.tail _ (.tail _ (.tail _ (.head _)))))), by decide⟩ ?_)
     refine wg_one (i := 14) (by kernel_rfl) rfl ?_
     have hS195 : SH _ _ _ _ _ [_, _, _, _, _, _, _] := SH.front (p := [_, _, _, _, _]) hS194
     obtain ⟨x196, hx197, h198⟩ := ob h177
     refine wl_appendR (t := tGEntry) wn rfl Tryz.underlying28 tf94 rfl rfl rfl rfl (RowAt.mono (hS180.le.trans hl192) hrow145) hm146 hs193 hx197 hS195 ?_
     intro a199 n200 c201 cs202 w203 hrow204 hm205 hS206
     refine wl_nil (qe_held (listed' := #[true, true, true, true, true, true, true, true, true, true, true, true, true, true, true, false, false]) rfl ⟨⟨hS206.hasK (hS180.le.trans hl192), hS206.hasObj (.tail _ (.tail _ (.tail _ (.head _))))⟩, (fun _ => hS206.hasObj (.tail _ (.tail _ (.tail _ (.tail _ (.tail _ (.head _))))))), by decide⟩ ?_)
     refine wg_val (i := 15) (listed' := #[true, true, true, true, true, true, true, true, true, true, true, true, true, true, true, true, false]) (fun _ => True) rfl (by kernel_rfl) (pk_block (pk_then (pk_then (pk_block (pk_then (pk_block (pk_then (pk_then (pk_block (pk_then (pk_then pk_body))))))))))) (by kernel_rfl) rfl (by kernel_rfl) (by kernel_rfl) rfl (.inl fun _ _ => trivial) ⟨⟨hS206.hasK (hS180.le.trans hl192), hS206.hasObj (.tail _ (.tail _ (.tail _ (.head _))))⟩, (fun _ => hS206.hasObj (.tail _ (.tail _ (.tail _ (.tail _ (.tail _ (.head _))))))), by decide⟩ wn rfl (fun _ _ => (rv_fieldAddr ff30_1 rfl)) ?_
     refine wg_one (i := 16) (by kernel_rfl) rfl ?_
     have hS207 : SH _ _ _ _ _ [_, _, _, _, _, _, _] := SH.front (p := [_, _, _, _, _]) hS206
     refine wl_store (cs' := [.slice a137 n138 c139, .slice a199 n200 c201]) (v := .slice a199 n200 c201) wn tf28 rfl rfl rfl (by simp [Value.cells, Value.oneCell']) hS207 rfl rfl ?_
     intro w208 hS209
     refine wl_nil (qe_held (listed' := #[true, true, true, true, true, true, true, true, true, true, true, true, true, true, true, true, true]) rfl ⟨⟨hS209.hasK (hS180.le.trans hl192), hS209.hasObj (.tail _ (.tail _ (.tail _ (.tail _ (.head _)))))⟩, (fun h => nomatch h), by decide⟩ ?_)
     refine wg_done (by kernel_rfl) ?_
     refine qe_block ?_
     refine qe_seq ?_
     refine wc_region ?_
     refine vm rfl rfl ?_
     refine wl_val wn rfl (rv_add rfl rfl) ?_
     refine va rfl rfl ?_
     refine wl_nil ?_
     obtain rfl := oi h198
     have hS210 : SH _ _ _ _ _ [_, _, _, _, _, _, _] := SH.front (p := [_, _, _, _, _, _]) hS209
     have hS211 : SH _ _ _ _ _ [_, _, _, _, _, _, _] := SH.front (p := [_, _]) hS210
     have hS212 : SH _ _ _ _ _ [_, _, _, _, _, _, _] := SH.front (p := [_, _]) hS211
     have hS213 : SH _ _ _ _ _ [_, _, _, _, _, _, _] := SH.front (p := [_, _, _, _, _, _]) hS212
     have hS214 : SH _ _ _ _ _ [_, _, _, _, _, _, _] := SH.front (p := [_, _, _, _, _, _]) hS213
     have hS215 : SH _ _ _ _ _ [_, _, _, _, _] := SH.sublist hS214 (.cons_cons _ (.cons_cons _ (.cons_cons _ (.cons_cons _ (.cons_cons _ (.cons _ (.cons _ .slnil)))))))
     exact qe_mid' ⟨_, rfl, a137, n138, c139, a199, n200, c201, cs202, K191, rfl, hS215, ((hl133.trans hS180.le).trans hl192), (w64_rng _), (SliceAt.mono (hS180.le.trans hl192) hs140), hrow204, hm205⟩ ⟨rfl, rfl, rfl, rfl, rfl, rfl, rfl, rfl, trivial⟩
    ·have h152 := cond_f hb151 h149
     refine wc_exit ?_
     refine qe_then_exit ?_
     refine qe_then_exit ?_
     obtain rfl := oi h152
     have e216 := hx150 _ rfl
     subst e216
     refine qe_block_eq ?_
     obtain rfl := oi h131
     exact qe_mid' ⟨a137, n138, c139, a141, n142, c143, cs144, K132, rfl, hS135, hl133, hs140, hrow145, hm146⟩ ⟨rfl, rfl, rfl, rfl, rfl, rfl, trivial⟩
   ·rintro _ w116 ⟨a118, n119, c120, a122, n123, c124, cs125, K114, rfl, hS117, hl115, hs121, hrow126, hm127⟩
    refine qe_block ?_
    refine qe_seq ?_
    refine wc_region ?_
    refine vm rfl rfl ?_
    refine wl_val wn rfl (rv_add rfl rfl) ?_
    refine va rfl rfl ?_
    refine wl_nil ?_
    obtain rfl := oi h113
    exact qe_mid' ⟨_, rfl, a118, n119, c120, a122, n123, c124, cs125, K114, rfl, hS117, ((hl61.trans hS104.le).trans hl115), (w64_rng _), hs121, hrow126, hm127⟩ ⟨rfl, rfl, rfl, rfl, rfl, rfl, trivial⟩
  ·have h86 := cond_f hb85 h83
   refine wc_exit ?_
   refine qe_then_exit ?_
   refine qe_then_exit ?_
   obtain rfl := oi h86
   have e217 := hx84 _ rfl
   subst e217
   refine qe_block_eq ?_
   obtain rfl := oi h59
   have hS218 : SH _ _ _ _ _ [_, _, _, _] := SH.sublist hS63 (.cons _ (.cons_cons _ (.cons_cons _ (.cons_cons _ (.cons_cons _ .slnil)))))
   exact qe_mid' ⟨a65, n66, c67, a69, n70, c71, cs72, K60, rfl, hS218, hl61, hs68, hrow73, hm74⟩ ⟨rfl, rfl, rfl, trivial⟩
 ·rintro _ w44 ⟨a46, n47, c48, a50, n51, c52, cs53, K42, rfl, hS45, hl43, hs49, hrow54, hm55⟩
  refine qs ?_
  refine sr ?_
  refine wl_val wn rfl (rv_assign (v := .int .i64 0) rfl) ?_
  refine nq ?_
  obtain ⟨o219, h220, h221⟩ := ob h41
  refine wc_cutg (fun E' w' => ∃ (a226 : Option Addr) (n227 c228 : Nat) (a230 : Option Addr) (n231 c232 : Nat) (cs233 : List Value) (K222 : KMap), E' = [(4, .pointer (some ⟨g17, 0, none⟩)), (5, .pointer (some ⟨g21, 0, none⟩))] ∧ SH w K [] w' K222 [obj g17 [.slice none 0 0, .slice none 0 0] 30, obj g21 [.slice a226 n227 c228, .slice a230 n231 c232] 30, rowI (.slice a230 n231 c232) cs233 94 3, tail (.slice a226 n227 c228) 44 3] ∧ KLe K42 K222 ∧ SliceAt tGDoc K222 a226 n227 c228 o219.Docs ∧ RowAt true tGEntry K222 cs233 o219.Entries ∧ n231 = o219.Entries.length) ?_ ?_
  ·refine wc_block ?_
   obtain ⟨r237, h238, h239⟩ := ob h220
   refine wc_while' (fun (s236 : Int × GSeg) E' w' => ∃ (a245 : Option Addr) (n246 c247 : Nat) (a249 : Option Addr) (n250 c251 : Nat) (cs252 : List Value) (K240 : KMap), E' = [(1, .slice a9 n10 c11), (4, .pointer (some ⟨g17, 0, none⟩)), (5, .pointer (some ⟨g21, 0, none⟩)), (10, .int .i64 s236.1)] ∧ SH w K [] w' K240 [obj g17 [.slice none 0 0, .slice none 0 0] 30, obj g21 [.slice a245 n246 c247, .slice a249 n250 c251] 30, rowI (.slice a249 n250 c251) cs252 94 3, tail (.slice a245 n246 c247) 44 3] ∧ KLe K42 K240 ∧ rng64 s236.1 ∧ SliceAt tGDoc K240 a245 n246 c247 s236.2.Docs ∧ RowAt true tGEntry K240 cs252 s236.2.Entries ∧ n250 = s236.2.Entries.length) h238 ⟨a46, n47, c48, a50, n51, c52, cs53, K42, rfl, hS45, (KLe.refl _), (by decide : rng64 0), hs49, hrow54, hm55⟩ ⟨rfl, rfl, rfl, rfl, trivial⟩ ?_
   rintro s236 _ w242 r255 h256 hx257 ⟨a245, n246, c247, a249, n250, c251, cs252, K240, rfl, hS243, hl241, hr244, hs248, hrow253, hm254⟩
   refine wc_seq ?_
   refine sr ?_
   refine vm rfl rfl ?_
   refine vm rfl rfl ?_
   refine wl_val wn rfl (rv_len (t := tGDoc) Tryz.underlying27 rfl (SliceAt.mono ((hS32.le.trans hl43).trans hl241) hs12)) ?_
   refine wl_val wn rfl (rv_lss rfl rfl) ?_
   refine nq ?_
   refine wc_cond rfl (fun hb258 => ?_) (fun hb258 => ?_)
   ·have h259 := cond_t hb258 h256
    refine wc_skip ?_
    refine qs ?_
    refine wc_block ?_
    refine wc_held (fun w' => Holds K240 w') (fun w' => HasObj g21 [.slice a245 n246 c247, .slice a249 n250 c251] w') 10 [(1, 8), (1, 9), (1, 10), (8, 9), (8, 10), (9, 10)] mixed ?_
    have hS261 := SH.drew hS243
    refine wg_val (i := 0) (listed' := #[true, false, false, false, false, false, false, false, false, false, false]) (fun _ => True) rfl (by kernel_rfl) (pk_block (pk_then (pk_then (pk_block (pk_then (pk_then pk_body)))))) (by kernel_rfl) rfl (by kernel_rfl) (by kernel_rfl) rfl (.inl fun _ _ => trivial) ⟨(hS261.hasK (KLe.refl _)), (fun _ => hS261.hasObj (.tail _ (.head _))), by decide⟩ wn rfl (fun _ _ => (rv_fieldAddr ff30_0 rfl)) ?_
    refine wg_val (i := 1) (listed' := #[true, true, false, false, false, false, false, false, false, false, false]) (HasObj g21 [.slice a245 n246 c247, .slice a249 n250 c251]) rfl (by kernel_rfl) (pk_block (pk_then (pk_then (pk_block (pk_then (pk_then pk_body)))))) (by kernel_rfl) rfl (by kernel_rfl) (by kernel_rfl) rfl (.inr ⟨rfl, fun _ _ h => h⟩) ⟨(hS261.hasK (KLe.refl _)), (fun _ => hS261.hasObj (.tail _ (.head _))), by decide⟩ wn rfl (fun _ h => rh_loadm1 tf27 rfl rfl h) ?_
    refine wg_val (i := 2) (listed' := #[true, true, true, false, false, false, false, false, false, false, false]) (fun _ => True) rfl (by kernel_rfl) (pk_block (pk_then (pk_then (pk_block (pk_then (pk_then pk_body)))))) (by kernel_rfl) rfl (by kernel_rfl) (by kernel_rfl) rfl (.inl fun _ _ => trivial) ⟨(hS261.hasK (KLe.refl _)), (fun _ => hS261.hasObj (.tail _ (.head _))), by decide⟩ wn rfl (fun _ _ => (rv_move rfl)) ?_
    refine wg_val (i := 3) (listed' := #[true, true, true, true, false, false, false, false, false, false, false]) (fun _ => True) rfl (by kernel_rfl) (pk_block (pk_then (pk_then (pk_block (pk_then (pk_then pk_body)))))) (by kernel_rfl) rfl (by kernel_rfl) (by kernel_rfl) rfl (.inl fun _ _ => trivial) ⟨(hS261.hasK (KLe.refl _)), (fun _ => hS261.hasObj (.tail _ (.head _))), by decide⟩ wn rfl (fun _ _ => (rv_move rfl)) ?_
    obtain ⟨x262, hx263, h264⟩ := ob h259
    refine wg_indexAddr (t := tGDoc) (j := 4) (listed' := #[true, true, true, true, true, false, false, false, false, false, false]) rfl (by kernel_rfl) (pk_block (pk_then (pk_then (pk_block (pk_then (pk_then pk_body)))))) (by kernel_rfl) rfl (by kernel_rfl) (by kernel_rfl) rfl ⟨(hS261.hasK (KLe.refl _)), (fun _ => hS261.hasObj (.tail _ (.head _))), by decide⟩ wn rfl Tryz.underlying27 tf44 rfl rfl (SliceAt.mono ((hS32.le.trans hl43).trans hl241) hs12) hx263 ?_
    intro b265 o266 u267 hu268 ha269
    obtain ⟨a271, n272, c273, a275, n276, c277, rfl, hr270, hs274, hs278⟩ := hu268
    have ha279 : AtK _ b265 o266 [.int .i64 x262.Id, .slice a271 n272 c273, .slice a275 n276 c277] := ha269
    refine wg_val (i := 5) (listed' := #[true, true, true, true, true, true, false, false, false, false, false]) (Holds K240) rfl (by kernel_rfl) (pk_block (pk_then (pk_then (pk_block (pk_then (pk_then pk_body)))))) (by kernel_rfl) rfl (by kernel_rfl) (by kernel_rfl) rfl (.inl fun _ h => h) ⟨(hS261.hasK (KLe.refl _)), (fun _ => hS261.hasObj (.tail _ (.head _))), by decide⟩ wn rfl (fun _ h => rh_loadS (cs := [.int .i64 x262.Id, .slice a271 n272 c273, .slice a275 n276 c277]) tf44 rfl ha279 rfl h) ?_
    refine wg_one (i := 6) (by kernel_rfl) rfl ?_
    obtain ⟨r280, hx281, h282⟩ := ob h264
    refine wl_call wn rfl (rt_call (vs := [.agg #[.int .i64 x262.Id, .slice a271 n272 c273, .slice a275 n276 c277]]) co117 rfl) ((ok_spec_l7CopyDoc F) hS261.enter0 hr270 hs274 hs278 hx281) ?_
    rintro e295 w284 ⟨a287, n288, c289, a291, n292, c293, K283, rfl, hS285, hr286, hs290, hs294⟩
    refine ⟨_, rfl, ?_⟩
    have hS296 : SH _ _ _ _ _ [_, _, _, _, _, _] := SH.call0 hS261 hS285
    refine wl_nil (qe_held (listed' := #[true, true, true, true, true, true, true, false, false, false, false]) rfl ⟨(hS296.hasK hS285.le), (fun _ => hS296.hasObj (.tail _ (.tail _ (.tail _ (.head _))))), by decide⟩ ?_)
    refine wg_one (i := 7) (by kernel_rfl) rfl ?_
    refine wl_buildSlice (t := tGDoc) (n := 1) (pv := [(0, .agg #[.int .i64 r280.Id, .slice a287 n288 c289, .slice a291 n292 c293])]) (cs := [.int .i64 r280.Id, .slice a287 n288 c289, .slice a291 n292 c293]) (xs := [r280]) wn rfl Tryz.underlying27 tf44 rfl rfl rfl (by kernel_rfl) rfl rfl (lit_cons (u := .agg #[.int .i64 r280.Id, .slice a287 n288 c289, .slice a291 n292 c293]) (z := r280) ⟨a287, n288, c289, a291, n292, c293, rfl, hr286, hs290, hs294⟩ lit_nil) hS296 ?_
    intro a297 w298 K299 hl300 hs301 hS302
    refine wl_nil (qe_held (listed' := #[true, true, true, true, true, true, true, true, false, false, false]) rfl ⟨(hS302.hasK (hS285.le.trans hl300)), (fun _ => hS302.hasObj (.tail _ (.tail _ (.tail _ (.tail _ (.head _)))))), by decide⟩ ?_)
    refine wg_one (i := 8) (by kernel_rfl) rfl ?_
    have hS303 : SH _ _ _ _ _ [_, _, _, _, _, _, _] := SH.front (p := [_, _, _, _, _, _]) hS302
    obtain ⟨x304, hx305, h306⟩ := ob h282
    refine wl_append (t := tGDoc) wn rfl Tryz.underlying27 tf44 rfl rfl rfl rfl rfl (SliceAt.mono (hS285.le.trans hl300) hs248) hs301 hx305 hS303 ?_
    intro a307 n308 c309 w310 K311 hl312 hs313 hS314
    refine wl_nil (qe_held (listed' := #[true, true, true, true, true, true, true, true, true, false, false]) rfl ⟨(hS314.hasK ((hS285.le.trans hl300).trans hl312)), (fun _ => hS314.hasObj (.tail _ (.tail _ (.tail _ (.tail _ (.tail _ (.head _))))))), by decide⟩ ?_)
    refine wg_val (i := 9) (listed' := #[true, true, true, true, true, true, true, true, true, true, false]) (fun _ => True) rfl (by kernel_rfl) (pk_block (pk_then (pk_then (pk_block (pk_then (pk_then pk_body)))))) (by kernel_rfl) rfl (by kernel_rfl) (by kernel_rfl) rfl (.inl fun _ _ => trivial) ⟨(hS314.hasK ((hS285.le.trans hl300).trans hl312)), (fun _ => hS314.hasObj (.tail _ (.tail _ (.tail _ (.tail _ (.tail _ (.head _))))))), by decide⟩ wn rfl (fun _ _ => (rv_fieldAddr ff30_0 rfl)) ?_
    refine wg_one (i := 10) (by kernel_rfl) rfl ?_
    have hS315 : SH _ _ _ _ _ [_, _, _, _, _, _, _] := SH.front (p := [_, _, _, _, _]) hS314
    refine wl_store (cs' := [.slice a307 n308 c309, .slice a249 n250 c251]) (v := .slice a307 n308 c309) wn tf27 rfl rfl rfl (by simp [Value.cells, Value.oneCell']) hS315 rfl rfl ?_
    intro w316 hS317
    refine wl_nil (qe_held (listed' := #[true, true, true, true, true, true, true, true, true, true, true]) rfl ⟨(hS317.hasK ((hS285.le.trans hl300).trans hl312)), (fun h => nomatch h), by decide⟩ ?_)
    refine wg_done (by kernel_rfl) ?_
    refine qe_block ?_
    refine qe_seq ?_
    refine wc_region ?_
    refine vm rfl rfl ?_
    refine wl_val wn rfl (rv_add rfl rfl) ?_
    refine va rfl rfl ?_
    refine wl_nil ?_
    obtain rfl := oi h306
    have hS318 : SH _ _ _ _ _ [_, _, _, _, _, _, _] := SH.front (p := [_]) hS317
    have hS319 : SH _ _ _ _ _ [_, _, _, _, _, _, _] := SH.front (p := [_, _, _, _, _, _]) hS318
    have hS320 : SH _ _ _ _ _ [_, _, _, _, _, _, _] := SH.front (p := [_, _]) hS319
    have hS321 : SH _ _ _ _ _ [_, _, _, _, _, _, _] := SH.front (p := [_, _, _, _, _, _]) hS320
    have hS322 : SH _ _ _ _ _ [_, _, _, _] := SH.sublist hS321 (.cons_cons _ (.cons_cons _ (.cons_cons _ (.cons_cons _ (.cons _ (.cons _ (.cons _ .slnil)))))))
    exact qe_mid' ⟨_, rfl, a307, n308, c309, a249, n250, c251, cs252, K311, rfl, hS322, (((hl241.trans hS285.le).trans hl300).trans hl312), (w64_rng _), hs313, (RowAt.mono ((hS285.le.trans hl300).trans hl312) hrow253), hm254⟩ ⟨rfl, rfl, rfl, rfl, trivial⟩
   ·have h259 := cond_f hb258 h256
    refine wc_exit ?_
    refine qe_then_exit ?_
    refine qe_then_exit ?_
    obtain rfl := oi h259
    have e323 := hx257 _ rfl
    subst e323
    refine qe_block_eq ?_
    obtain rfl := oi h239
    exact qe_mid' ⟨a245, n246, c247, a249, n250, c251, cs252, K240, rfl, hS243, hl241, hs248, hrow253, hm254⟩ ⟨rfl, rfl, trivial⟩
  ·rintro _ w224 ⟨a226, n227, c228, a230, n231, c232, cs233, K222, rfl, hS225, hl223, hs229, hrow234, hm235⟩
   refine qr ?_
   refine wl_val wn rfl (rv_loadmS (ds := [.slice a226 n227 c228, .slice a230 n231 c232]) tf30 rfl (.tail _ (.head _)) hS225 rfl rfl) ?_
   refine wl_store (cs' := [.slice a226 n227 c228, .slice a230 n231 c232]) (v := .agg #[.slice a226 n227 c228, .slice a230 n231 c232]) wn tf30 rfl rfl rfl (by simp [Value.cells, Value.oneCell']) hS225 rfl rfl ?_
   intro w324 hS325
   refine nq ?_
   refine wc_ret ?_
   obtain rfl := oi h221
   have hS326 : SH _ _ _ _ _ [_, _, _, _] := SH.front (p := [_, _]) hS325
   have hS327 : SH _ _ _ _ _ [_, _, _, _] := SH.front (p := [_, _, _]) hS326
   have hS328 : SH _ _ _ _ _ [_, _] := SH.sublist hS327 (.cons_cons _ (.cons_cons _ (.cons _ (.cons _ .slnil))))
   exact qe_ret (vs := [_]) Tryz.results66 ⟨⟨_, _, rfl, run_loadVar_at tf30 (cs := [.slice a226 n227 c228, .slice a230 n231 c232]) (fun j c e => by rw [Nat.zero_add, hS325.mem_obj (.head _)]; exact e) (.inl ⟨rfl, rfl, rfl⟩)⟩, trivial⟩ ⟨a226, n227, c228, a230, n231, c232, cs233, K222, rfl, hS328, hs229, hrow234, hm235⟩

set_option maxHeartbeats 2000000 in
theorem ok_spec_l30Rd_pick (F : Nat) {w : World} {K : KMap} {g1 : Nat} {a2 : Option Addr} {n3 c4 : Nat} {p0_r : GL30Rd} {p1_n : Int} {r : Int × GL30Rd} (hS : SH w K (List.flatMap Item.gs [obj g1 [.slice a2 n3 c4, .int .i64 p0_r.p_] 141]) w K [obj g1 [.slice a2 n3 c4, .int .i64 p0_r.p_] 141]) (hs5 : SliceAt tU8 K a2 n3 c4 p0_r.b_) (hr6 : rng64 p0_r.p_) (hr7 : rng64 p1_n) (hm : M.spec_l30Rd_pick F p0_r p1_n = some r) :
  Calls Tryz.prog 95 #[.pointer (some ⟨g1, 0, none⟩), .int .i64 p1_n] w fun e w' => ∃ (a_2 : Option Addr) (n_3 c_4 : Nat) (K' : KMap), e = .returned (.int .i64 r.1) ∧ SH w K (List.flatMap Item.gs [obj g1 [.slice a2 n3 c4, .int .i64 p0_r.p_] 141]) w' K' [obj g1 [.slice a_2 n_3 c_4, .int .i64 r.2.p_] 141] ∧ rng64 r.1 ∧ SliceAt tU8 K' a_2 n_3 c_4 r.2.b_ ∧ rng64 r.2.p_ := by
 rw [M.spec_l30Rd_pick] at hm
 refine calls_in Tryz.func95 rfl Tryz.ntmps95 rfl ?_
 refine sr ?_
 refine wl_val wn rfl (rv_assign (v := .int .i64 0) rfl) ?_
 refine nr ?_
 refine vm rfl rfl ?_
 refine vm rfl rfl ?_
 refine wl_val wn rfl (rv_nilCheck rfl) ?_
 refine wl_val wn rfl (rv_fieldAddr ff141_1 rfl) ?_
 refine wl_val wn rfl (rv_loadm1 tf3 rfl (.head _) hS rfl) ?_
 refine wl_val wn rfl (rv_add rfl rfl) ?_
 refine wl_val wn rfl (rv_nilCheck rfl) ?_
 refine wl_val wn rfl (rv_fieldAddr ff141_1 rfl) ?_
 refine wl_store (cs' := [.slice a2 n3 c4, .int .i64 (w64 (p0_r.p_ + (1 : Int)))]) (v := .int .i64 (w64 (p0_r.p_ + (1 : Int)))) wn tf3 rfl rfl rfl (by simp [Value.cells, Value.oneCell']) hS rfl rfl ?_
 intro w8 hS9
 refine ns ?_
 refine wc_seq ?_
 obtain ⟨o10, h11, h12⟩ := ob hm
 refine wc_cutg (fun E' w' => ∃ (K13 : KMap), E' = [(0, .pointer (some ⟨g1, 0, none⟩)), (1, .int .i64 p1_n), (24, .bool o10)] ∧ SH w K (List.flatMap Item.gs [obj g1 [.slice a2 n3 c4, .int .i64 p0_r.p_] 141]) w' K13 [obj g1 [.slice a2 n3 c4, .int .i64 (w64 (p0_r.p_ + (1 : Int)))] 141] ∧ KLe K K13) ?_ ?_
 ·refine wc_region ?_
  refine vm rfl rfl ?_
  refine wl_val wn rfl (rv_lss rfl rfl) ?_
  refine vm rfl rfl ?_
  rcases bool_tf (decide (p1_n < (1 : Int))) with hb17 | hb17
  ·have h18 := cond_t hb17 h11
   refine wl_un (ug rfl rfl hb17) rfl ?_
   refine wl_un (ug rfl rfl hb17) rfl ?_
   refine wl_un (ug rfl rfl hb17) rfl ?_
   refine wl_un (ug rfl rfl hb17) rfl ?_
   refine wl_un (ug rfl rfl hb17) rfl ?_
   refine wl_un (ug rfl rfl hb17) rfl ?_
   refine wl_val wn rfl (rv_pick_t (v := .bool true) rfl hb17 rfl) ?_
   refine wl_nil ?_
   obtain rfl := oi h18
   exact qe_mid' ⟨K, rfl, hS9, (KLe.refl _)⟩ ⟨rfl, rfl, rfl, trivial⟩
  ·have h18 := cond_f hb17 h11
   refine wl_val (wg rfl rfl hb17) rfl (rv_move rfl) ?_
   refine wl_val (wg rfl rfl hb17) rfl (rv_nilCheck rfl) ?_
   refine wl_val (wg rfl rfl hb17) rfl (rv_fieldAddr ff141_0 rfl) ?_
   refine wl_val (wg rfl rfl hb17) rfl (rv_loadm1 tf22 rfl (.head _) hS9 rfl) ?_
   refine wl_val (wg rfl rfl hb17) rfl (rv_len (t := tU8) Tryz.underlying22 rfl hs5) ?_
   refine wl_val (wg rfl rfl hb17) rfl (rv_eql rfl rfl) ?_
   refine wl_val wn rfl (rv_pick_f rfl hb17 rfl) ?_
   refine wl_nil ?_
   obtain rfl := oi h18
   exact qe_mid' ⟨K, rfl, hS9, (KLe.refl _)⟩ ⟨rfl, rfl, rfl, trivial⟩
 ·rintro _ w15 ⟨K13, rfl, hS16, hl14⟩
  refine qe_seq ?_
  refine wc_cond rfl (fun hb19 => ?_) (fun hb19 => ?_)
  ·have h20 := cond_t hb19 h12
   refine sr ?_
   refine wl_val wn rfl (rv_assign (v := .int .i64 0) rfl) ?_
   refine nq ?_
   refine rr ?_
   obtain rfl := oi h20
   exact qe_ret (vs := [_]) Tryz.results95 ⟨rfl, trivial⟩ ⟨a2, n3, c4, K13, rfl, hS16, (by decide : rng64 0), (SliceAt.mono hl14 hs5), (w64_rng _)⟩
  ·have h20 := cond_f hb19 h12
   refine wc_skip ?_
   refine qr ?_
   refine vm rfl rfl ?_
   refine wl_val wn rfl (rv_nilCheck rfl) ?_
   refine wl_val wn rfl (rv_fieldAddr ff141_1 rfl) ?_
   refine wl_val wn rfl (rv_loadm1 tf3 rfl (.head _) hS16 rfl) ?_
   refine wl_val wn rfl (rv_sub rfl rfl) ?_
   refine va rfl rfl ?_
   refine nsr ?_
   refine vm rfl rfl ?_
   refine vm rfl rfl ?_
   refine wl_val wn rfl (rv_nilCheck rfl) ?_
   refine wl_val wn rfl (rv_fieldAddr ff141_0 rfl) ?_
   refine wl_val wn rfl (rv_loadm1 tf22 rfl (.head _) hS16 rfl) ?_
   refine wl_val wn rfl (rv_len (t := tU8) Tryz.underlying22 rfl (SliceAt.mono hl14 hs5)) ?_
   refine wl_val wn rfl (rv_lss rfl rfl) ?_
   refine nq ?_
   refine wc_cond rfl (fun hb21 => ?_) (fun hb21 => ?_)
   ·have h22 := cond_t hb21 h20
    refine sr ?_
    refine vm rfl rfl ?_
    refine wl_val wn rfl (rv_nilCheck rfl) ?_
    refine wl_val wn rfl (rv_fieldAddr ff141_0 rfl) ?_
    refine wl_val wn rfl (rv_loadm1 tf22 rfl (.head _) hS16 rfl) ?_
    refine vm rfl rfl ?_
    obtain ⟨x23, hx24, h25⟩ := ob h22
    refine wl_indexAddr (t := tU8) wn rfl Tryz.underlying22 tf5 rfl rfl (SliceAt.mono hl14 hs5) hx24 ?_
    intro b26 o27 u28 hu29 ha30
    obtain rfl := hu29
    have ha31 : AtK _ b26 o27 [iv8 x23] := ha30
    refine wl_val wn rfl (rv_load1 tf5 rfl hS16 (ha31 0 _ rfl)) ?_
    refine wl_val wn rfl (rv_b2i Tryz.underlying5 Tryz.underlying3 rfl) ?_
    refine vm rfl rfl ?_
    obtain ⟨x32, hx33, h34⟩ := ob h25
    refine wl_val wn rfl (rv_rem rfl rfl hx33) ?_
    refine va rfl rfl ?_
    refine nq ?_
    refine rr ?_
    obtain rfl := oi h34
    exact qe_ret (vs := [_]) Tryz.results95 ⟨rfl, trivial⟩ ⟨a2, n3, c4, K13, rfl, hS16, (rng_rem (rng_u8 _) hx33), (SliceAt.mono hl14 hs5), (w64_rng _)⟩
   ·have h22 := cond_f hb21 h20
    refine wc_skip ?_
    refine qs ?_
    refine wc_quiet mixed (by kernel_rfl) hS16 ?_
    refine qm rfl rfl ?_
    refine wq_val wn rfl (fun _ _ => (rv_nilCheck rfl)) ?_
    refine wq_val wn rfl (fun _ _ => (rv_fieldAddr ff141_0 rfl)) ?_
    refine wq_val wn rfl (rq_loadm1 tf22 rfl (.head _) rfl) ?_
    refine qm rfl rfl ?_
    refine qm rfl rfl ?_
    refine wq_val wn rfl (fun _ _ => (rv_nilCheck rfl)) ?_
    refine wq_val wn rfl (fun _ _ => (rv_fieldAddr ff141_0 rfl)) ?_
    refine wq_val wn rfl (rq_loadm1 tf22 rfl (.head _) rfl) ?_
    refine wq_val wn rfl (fun _ _ => (rv_len (t := tU8) Tryz.underlying22 rfl (SliceAt.mono hl14 hs5))) ?_
    obtain ⟨x35, hx36, h37⟩ := ob h22
    refine wq_val wn rfl (fun _ _ => (rv_rem rfl rfl hx36)) ?_
    obtain ⟨x38, hx39, h40⟩ := ob h37
    refine wq_indexAddr (t := tU8) wn rfl Tryz.underlying22 tf5 rfl rfl (SliceAt.mono hl14 hs5) hx39 ?_
    intro b41 o42 u43 hu44 ha45
    obtain rfl := hu44
    have ha46 : AtK _ b41 o42 [iv8 x38] := ha45
    refine wq_val wn rfl (rq_load1 tf5 rfl (ha46 0 _ rfl)) ?_
    refine wq_val wn rfl (fun _ _ => (rv_b2i Tryz.underlying5 Tryz.underlying3 rfl)) ?_
    refine wq_val wn rfl (fun _ _ => (rv_mul rfl rfl)) ?_
    refine qm rfl rfl ?_
    refine wq_val wn rfl (fun _ _ => (rv_nilCheck rfl)) ?_
    refine wq_val wn rfl (fun _ _ => (rv_fieldAddr ff141_0 rfl)) ?_
    refine wq_val wn rfl (rq_loadm1 tf22 rfl (.head _) rfl) ?_
    refine qm rfl rfl ?_
    refine wq_val wn rfl (fun _ _ => (rv_mul rfl rfl)) ?_
    refine wq_val wn rfl (fun _ _ => (rv_add rfl rfl)) ?_
    refine qm rfl rfl ?_
    refine wq_val wn rfl (fun _ _ => (rv_nilCheck rfl)) ?_
    refine wq_val wn rfl (fun _ _ => (rv_fieldAddr ff141_0 rfl)) ?_
    refine wq_val wn rfl (rq_loadm1 tf22 rfl (.head _) rfl) ?_
    refine wq_val wn rfl (fun _ _ => (rv_len (t := tU8) Tryz.underlying22 rfl (SliceAt.mono hl14 hs5))) ?_
    obtain ⟨x47, hx48, h49⟩ := ob h40
    refine wq_val wn rfl (fun _ _ => (rv_rem rfl rfl hx48)) ?_
    obtain ⟨x50, hx51, h52⟩ := ob h49
    refine wq_indexAddr (t := tU8) wn rfl Tryz.underlying22 tf5 rfl rfl (SliceAt.mono hl14 hs5) hx51 ?_
    intro b53 o54 u55 hu56 ha57
    obtain rfl := hu56
    have ha58 : AtK _ b53 o54 [iv8 x50] := ha57
    refine wq_val wn rfl (rq_load1 tf5 rfl (ha58 0 _ rfl)) ?_
    refine wq_val wn rfl (fun _ _ => (rv_b2i Tryz.underlying5 Tryz.underlying3 rfl)) ?_
    refine wq_val wn rfl (fun _ _ => (rv_mul rfl rfl)) ?_
    refine wq_val wn rfl (fun _ _ => (rv_add rfl rfl)) ?_
    refine qm rfl rfl ?_
    refine wq_val wn rfl (fun _ _ => (rv_mul rfl rfl)) ?_
    refine wq_val wn rfl (fun _ _ => (rv_add rfl rfl)) ?_
    refine qm rfl rfl ?_
    refine qm rfl rfl ?_
    refine wq_val wn rfl (fun _ _ => (rv_nilCheck rfl)) ?_
    refine wq_val wn rfl (fun _ _ => (rv_fieldAddr ff141_0 rfl)) ?_
    refine wq_val wn rfl (rq_loadm1 tf22 rfl (.head _) rfl) ?_
    refine wq_val wn rfl (fun _ _ => (rv_len (t := tU8) Tryz.underlying22 rfl (SliceAt.mono hl14 hs5))) ?_
    obtain ⟨x59, hx60, h61⟩ := ob h52
    refine wq_val wn rfl (fun _ _ => (rv_quo rfl rfl hx60)) ?_
    refine wq_val wn rfl (fun _ _ => (rv_mul rfl rfl)) ?_
    refine wq_val wn rfl (fun _ _ => (rv_add rfl rfl)) ?_
    obtain ⟨x62, hx63, h64⟩ := ob h61
    have e65 := oi hx63
    refine wq_val wn rfl (fun _ _ => (rv_as rfl (congrArg (Value.int .i64) e65))) ?_
    refine wq_nil ?_
    rintro w67 ⟨K66, hS68, hl69⟩
    refine qr ?_
    refine vm rfl rfl ?_
    refine vm rfl rfl ?_
    obtain ⟨x70, hx71, h72⟩ := ob h64
    refine wl_val wn rfl (rv_quo rfl rfl hx71) ?_
    refine wl_val wn rfl (rv_xor rfl rfl) ?_
    refine va rfl rfl ?_
    refine nr ?_
    refine vm rfl rfl ?_
    refine vm rfl rfl ?_
    obtain ⟨x73, hx74, h75⟩ := ob h72
    refine wl_val wn rfl (rv_rem rfl rfl hx74) ?_
    refine va rfl rfl ?_
    refine nq ?_
    refine wc_ret ?_
    obtain rfl := oi h75
    exact qe_ret (vs := [_]) Tryz.results95 ⟨rfl, trivial⟩ ⟨a2, n3, c4, K66, rfl, hS68, (rng_rem (w64_rng _) hx74), (SliceAt.mono (hl14.trans hl69) hs5), (w64_rng _)⟩

set_option maxHeartbeats 2000000 in
theorem ok_spec_l30Conf (F : Nat) {w : World} {K : KMap} {g1 : Nat} {a2 : Option Addr} {n3 c4 : Nat} {p0_r : GL30Rd} {r : GConf × GL30Rd} (hS : SH w K (List.flatMap Item.gs [obj g1 [.slice a2 n3 c4, .int .i64 p0_r.p_] 141]) w K [obj g1 [.slice a2 n3 c4, .int .i64 p0_r.p_] 141]) (hs5 : SliceAt tU8 K a2 n3 c4 p0_r.b_) (hr6 : rng64 p0_r.p_) (hm : M.spec_l30Conf F p0_r = some r) :
  Calls Tryz.prog 137 #[.pointer (some ⟨g1, 0, none⟩)] w fun e w' => ∃ (a_1 : Option Addr) (n_2 c_3 : Nat) (a_5 : Option Addr) (n_6 c_7 : Nat) (a_9 : Option Addr) (n_10 c_11 : Nat) (K' : KMap), e = .returned (.agg #[.slice a_1 n_2 c_3, .slice a_5 n_6 c_7]) ∧ SH w K (List.flatMap Item.gs [obj g1 [.slice a2 n3 c4, .int .i64 p0_r.p_] 141]) w' K' [tail (.slice a_1 n_2 c_3) 9 1, tail (.slice a_5 n_6 c_7) 106 2, obj g1 [.slice a_9 n_10 c_11, .int .i64 r.2.p_] 141] ∧ SliceAt tStr K' a_1 n_2 c_3 r.1.Stops ∧ SliceAt tGSyn K' a_5 n_6 c_7 r.1.Syns ∧ SliceAt tU8 K' a_9 n_10 c_11 r.2.b_ ∧ rng64 r.2.p_ := by
 rw [M.spec_l30Conf] at hm
 refine calls_in Tryz.func137 rfl Tryz.ntmps137 rfl ?_
 refine sr ?_
 refine wl_alloc wn rfl tf26 hS ?_
 intro g7 w8 hS9
 have hS10 : SH _ _ _ _ _ [obj g7 [.slice none 0 0, .slice none 0 0] 26, _] := hS9
 refine nr ?_
 refine wl_val wn rfl (rv_build (cs := #[.slice none 0 0, .slice none 0 0]) sp26 tf26 rfl (by kernel_rfl)) ?_
 refine wl_alloc wn rfl tf26 hS10 ?_
 intro g11 w12 hS13
 have hS14 : SH _ _ _ _ _ [obj g11 [.slice none 0 0, .slice none 0 0] 26, _, _] := hS13
 refine wl_store (cs' := [.slice none 0 0, .slice none 0 0]) (v := .agg #[.slice none 0 0, .slice none 0 0]) wn tf26 rfl rfl rfl (by simp [Value.cells, Value.oneCell']) hS14 rfl rfl ?_
 intro w15 hS16
 refine nsr ?_
 refine vm rfl rfl ?_
 obtain ⟨r17, hx18, h19⟩ := ob hm
 have hS20 : SH _ _ _ _ _ [_, _, _] := SH.front (p := [_, _]) hS16
 refine wl_call wn rfl (rt_call (vs := [.pointer (some ⟨g1, 0, none⟩), .int .i64 3]) co95 rfl) ((ok_spec_l30Rd_pick F) (SH.enter (Lin := [_]) hS20) hs5 hr6 (by decide : rng64 3) hx18) ?_
 rintro e30 w22 ⟨a25, n26, c27, K21, rfl, hS23, hr24, hs28, hr29⟩
 refine ⟨_, rfl, ?_⟩
 have hS31 : SH _ _ _ _ _ [_, _, _] := SH.call (Lin := [_]) hS20 hS23
 refine wl_val wn rfl (rv_gtr rfl rfl) ?_
 refine nq ?_
 obtain ⟨o32, h33, h34⟩ := ob h19
 refine wc_cutg (fun E' w' => ∃ (a39 : Option Addr) (n40 c41 : Nat) (a43 : Option Addr) (n44 c45 : Nat) (K35 : KMap), E' = [(0, .pointer (some ⟨g1, 0, none⟩)), (2, .pointer (some ⟨g7, 0, none⟩)), (3, .pointer (some ⟨g11, 0, none⟩))] ∧ SH w K (List.flatMap Item.gs [obj g1 [.slice a2 n3 c4, .int .i64 p0_r.p_] 141]) w' K35 [obj g1 [.slice a25 n26 c27, .int .i64 r17.2.p_] 141, obj g7 [.slice none 0 0, .slice none 0 0] 26, obj g11 [.slice a39 n40 c41, .slice a43 n44 c45] 26, tail (.slice a39 n40 c41) 9 1, tail (.slice a43 n44 c45) 106 2] ∧ KLe K21 K35 ∧ SliceAt tStr K35 a39 n40 c41 o32.Stops ∧ SliceAt tGSyn K35 a43 n44 c45 o32.Syns) ?_ ?_
 ·refine wc_cond rfl (fun hb47 => ?_) (fun hb47 => ?_)
  ·have h48 := cond_t hb47 h33
   refine wc_region ?_
   refine wl_buildSlice (t := tStr) (n := 1) (pv := [(0, sv [116, 104, 101])]) (cs := [sv [116, 104, 101]]) (xs := [([116, 104, 101] : Str)]) wn rfl Tryz.underlying23 tf9 rfl rfl rfl (by kernel_rfl) rfl rfl (lit_cons (u := sv [116, 104, 101]) (z := ([116, 104, 101] : Str)) ⟨rfl, (by decide : ([116, 104, 101] : Str).length ≤ maxLen)⟩ lit_nil) hS31 ?_
   intro a49 w50 K51 hl52 hs53 hS54
   refine wl_val wn rfl (rv_fieldAddr ff26_0 rfl) ?_
   have hS55 : SH _ _ _ _ _ [_, _, _, _] := SH.front (p := [_, _]) hS54
   refine wl_store (cs' := [.slice a49 1 1, .slice none 0 0]) (v := .slice a49 1 1) wn tf23 rfl rfl rfl (by simp [Value.cells, Value.oneCell']) hS55 rfl rfl ?_
   intro w56 hS57
   refine wl_nil ?_
   obtain rfl := oi h48
   have hS58 := SH.nil hS57 106 2
   have hS59 : SH _ _ _ _ _ [_, _, _, _, _] := SH.front (p := [_, _]) hS58
   have hS60 : SH _ _ _ _ _ [_, _, _, _, _] := SH.front (p := [_, _]) hS59
   have hS61 : SH _ _ _ _ _ [_, _, _, _, _] := SH.front (p := [_, _, _, _]) hS60
   have hS62 : SH _ _ _ _ _ [_, _, _, _, _] := SH.front (p := [_, _, _, _]) hS61
   exact qe_mid' ⟨a49, 1, 1, none, 0, 0, K51, rfl, hS62, hl52, hs53, (SliceAt.nil _ _)⟩ ⟨rfl, rfl, rfl, trivial⟩
  ·have h48 := cond_f hb47 h33
   refine wc_skip ?_
   obtain rfl := oi h48
   have hS63 := SH.nil hS31 9 1
   have hS64 := SH.nil hS63 106 2
   have hS65 : SH _ _ _ _ _ [_, _, _, _, _] := SH.front (p := [_]) hS64
   have hS66 : SH _ _ _ _ _ [_, _, _, _, _] := SH.front (p := [_, _, _]) hS65
   have hS67 : SH _ _ _ _ _ [_, _, _, _, _] := SH.front (p := [_, _, _, _]) hS66
   have hS68 : SH _ _ _ _ _ [_, _, _, _, _] := SH.front (p := [_, _, _, _]) hS67
   exact qe_mid' ⟨none, 0, 0, none, 0, 0, K21, rfl, hS68, (KLe.refl _), (SliceAt.nil _ _), (SliceAt.nil _ _)⟩ ⟨rfl, rfl, rfl, trivial⟩
 ·rintro _ w37 ⟨a39, n40, c41, a43, n44, c45, K35, rfl, hS38, hl36, hs42, hs46⟩
  refine qs ?_
  refine sr ?_
  refine vm rfl rfl ?_
  obtain ⟨r69, hx70, h71⟩ := ob h34
  refine wl_call wn rfl (rt_call (vs := [.pointer (some ⟨g1, 0, none⟩), .int .i64 4]) co95 rfl) ((ok_spec_l30Rd_pick F) (SH.enter (Lin := [_]) hS38) (SliceAt.mono hl36 hs28) hr29 (by decide : rng64 4) hx70) ?_
  rintro e81 w73 ⟨a76, n77, c78, K72, rfl, hS74, hr75, hs79, hr80⟩
  refine ⟨_, rfl, ?_⟩
  have hS82 : SH _ _ _ _ _ [_, _, _, _, _] := SH.call (Lin := [_]) hS38 hS74
  refine wl_val wn rfl (rv_eql rfl rfl) ?_
  refine nq ?_
  obtain ⟨o83, h84, h85⟩ := ob h71
  refine wc_cutg (fun E' w' => ∃ (a90 : Option Addr) (n91 c92 : Nat) (a94 : Option Addr) (n95 c96 : Nat) (K86 : KMap), E' = [(0, .pointer (some ⟨g1, 0, none⟩)), (2, .pointer (some ⟨g7, 0, none⟩)), (3, .pointer (some ⟨g11, 0, none⟩))] ∧ SH w K (List.flatMap Item.gs [obj g1 [.slice a2 n3 c4, .int .i64 p0_r.p_] 141]) w' K86 [obj g1 [.slice a76 n77 c78, .int .i64 r69.2.p_] 141, obj g7 [.slice none 0 0, .slice none 0 0] 26, obj g11 [.slice a90 n91 c92, .slice a94 n95 c96] 26, tail (.slice a90 n91 c92) 9 1, tail (.slice a94 n95 c96) 106 2] ∧ KLe K72 K86 ∧ SliceAt tStr K86 a90 n91 c92 o83.Stops ∧ SliceAt tGSyn K86 a94 n95 c96 o83.Syns) ?_ ?_
  ·refine wc_cond rfl (fun hb98 => ?_) (fun hb98 => ?_)
   ·have h99 := cond_t hb98 h84
    refine wc_region ?_
    refine wl_buildSlice (t := tStr) (n := 2) (pv := [(0, sv [100, 111, 103]), (1, sv [116, 104, 101])]) (cs := [sv [100, 111, 103], sv [116, 104, 101]]) (xs := [([100, 111, 103] : Str), ([116, 104, 101] : Str)]) wn rfl Tryz.underlying23 tf9 rfl rfl rfl (by kernel_rfl) rfl rfl (lit_cons (u := sv [100, 111, 103]) (z := ([100, 111, 103] : Str)) ⟨rfl, (by decide : ([100, 111, 103] : Str).length ≤ maxLen)⟩ (lit_cons (u := sv [116, 104, 101]) (z := ([116, 104, 101] : Str)) ⟨rfl, (by decide : ([116, 104, 101] : Str).length ≤ maxLen)⟩ lit_nil)) hS82 ?_
    intro a100 w101 K102 hl103 hs104 hS105
    refine wl_val wn rfl (rv_fieldAddr ff26_0 rfl) ?_
    have hS106 : SH _ _ _ _ _ [_, _, _, _, _, _] := SH.front (p := [_, _, _]) hS105
    refine wl_store (cs' := [.slice a100 2 2, .slice a43 n44 c45]) (v := .slice a100 2 2) wn tf23 rfl rfl rfl (by simp [Value.cells, Value.oneCell']) hS106 rfl rfl ?_
    intro w107 hS108
    refine wl_nil ?_
    obtain rfl := oi h99
    have hS109 : SH _ _ _ _ _ [_, _, _, _, _, _] := SH.front (p := [_, _, _, _, _]) hS108
    have hS110 : SH _ _ _ _ _ [_, _, _, _, _, _] := SH.front (p := [_, _]) hS109
    have hS111 : SH _ _ _ _ _ [_, _, _, _, _, _] := SH.front (p := [_, _]) hS110
    have hS112 : SH _ _ _ _ _ [_, _, _, _, _, _] := SH.front (p := [_, _, _, _]) hS111
    have hS113 : SH _ _ _ _ _ [_, _, _, _, _, _] := SH.front (p := [_, _, _, _]) hS112
    have hS114 : SH _ _ _ _ _ [_, _, _, _, _] := SH.sublist hS113 (.cons_cons _ (.cons_cons _ (.cons_cons _ (.cons_cons _ (.cons_cons _ (.cons _ .slnil))))))
    exact qe_mid' ⟨a100, 2, 2, a43, n44, c45, K102, rfl, hS114, hl103, hs104, (SliceAt.mono (hS74.le.trans hl103) hs46)⟩ ⟨rfl, rfl, rfl, trivial⟩
   ·have h99 := cond_f hb98 h84
    refine wc_skip ?_
    obtain rfl := oi h99
    exact qe_mid' ⟨a39, n40, c41, a43, n44, c45, K72, rfl, hS82, (KLe.refl _), (SliceAt.mono hS74.le hs42), (SliceAt.mono hS74.le hs46)⟩ ⟨rfl, rfl, rfl, trivial⟩
  ·rintro _ w88 ⟨a90, n91, c92, a94, n95, c96, K86, rfl, hS89, hl87, hs93, hs97⟩
   refine qs ?_
   refine sr ?_
   refine vm rfl rfl ?_
   obtain ⟨r115, hx116, h117⟩ := ob h85
   refine wl_call wn rfl (rt_call (vs := [.pointer (some ⟨g1, 0, none⟩), .int .i64 4]) co95 rfl) ((ok_spec_l30Rd_pick F) (SH.enter (Lin := [_]) hS89) (SliceAt.mono hl87 hs79) hr80 (by decide : rng64 4) hx116) ?_
   rintro e127 w119 ⟨a122, n123, c124, K118, rfl, hS120, hr121, hs125, hr126⟩
   refine ⟨_, rfl, ?_⟩
   have hS128 : SH _ _ _ _ _ [_, _, _, _, _] := SH.call (Lin := [_]) hS89 hS120
   refine nq ?_
   refine wc_block ?_
   refine sr ?_
   refine wl_val wn rfl (rv_eql rfl rfl) ?_
   refine va rfl rfl ?_
   refine nq ?_
   refine wc_cond rfl (fun hb129 => ?_) (fun hb129 => ?_)
   ·have h130 := cond_t hb129 h117
    refine wc_region ?_
    refine wl_buildSlice (t := tStr) (n := 2) (pv := [(0, sv [110, 101, 119]), (1, sv [121, 111, 114, 107])]) (cs := [sv [110, 101, 119], sv [121, 111, 114, 107]]) (xs := [([110, 101, 119] : Str), ([121, 111, 114, 107] : Str)]) wn rfl Tryz.underlying23 tf9 rfl rfl rfl (by kernel_rfl) rfl rfl (lit_cons (u := sv [110, 101, 119]) (z := ([110, 101, 119] : Str)) ⟨rfl, (by decide : ([110, 101, 119] : Str).length ≤ maxLen)⟩ (lit_cons (u := sv [121, 111, 114, 107]) (z := ([121, 111, 114, 107] : Str)) ⟨rfl, (by decide : ([121, 111, 114, 107] : Str).length ≤ maxLen)⟩ lit_nil)) hS128 ?_
    intro a131 w132 K133 hl134 hs135 hS136
    refine wl_val wn rfl (rv_build (cs := #[.slice a131 2 2, sv [110, 121]]) sp106 tf106 rfl (by kernel_rfl)) ?_
    refine wl_buildSlice (t := tGSyn) (n := 1) (pv := [(0, .agg #[.slice a131 2 2, sv [110, 121]])]) (cs := [.slice a131 2 2, sv [110, 121]]) (xs := [(GSyn.mk ([([110, 101, 119] : Str), ([121, 111, 114, 107] : Str)] : List Str) ([110, 121] : Str))]) wn rfl Tryz.underlying24 tf106 rfl rfl rfl (by kernel_rfl) rfl rfl (lit_cons (u := .agg #[.slice a131 2 2, sv [110, 121]]) (z := (GSyn.mk ([([110, 101, 119] : Str), ([121, 111, 114, 107] : Str)] : List Str) ([110, 121] : Str))) ⟨a131, 2, 2, rfl, hs135, (by decide : ([110, 121] : Str).length ≤ maxLen)⟩ lit_nil) hS136 ?_
    intro a137 w138 K139 hl140 hs141 hS142
    refine wl_val wn rfl (rv_fieldAddr ff26_1 rfl) ?_
    have hS143 : SH _ _ _ _ _ [_, _, _, _, _, _, _] := SH.front (p := [_, _, _, _]) hS142
    refine wl_store (cs' := [.slice a90 n91 c92, .slice a137 1 1]) (v := .slice a137 1 1) wn tf24 rfl rfl rfl (by simp [Value.cells, Value.oneCell']) hS143 rfl rfl ?_
    intro w144 hS145
    refine nb ?_
    refine qr ?_
    refine wl_val wn rfl (rv_loadmS (ds := [.slice a90 n91 c92, .slice a137 1 1]) tf26 rfl (.head _) hS145 rfl rfl) ?_
    have hS146 : SH _ _ _ _ _ [_, _, _, _, _, _, _] := SH.front (p := [_, _, _, _]) hS145
    refine wl_store (cs' := [.slice a90 n91 c92, .slice a137 1 1]) (v := .agg #[.slice a90 n91 c92, .slice a137 1 1]) wn tf26 rfl rfl rfl (by simp [Value.cells, Value.oneCell']) hS146 rfl rfl ?_
    intro w147 hS148
    refine nq ?_
    refine wc_ret ?_
    obtain rfl := oi h130
    have hS149 : SH _ _ _ _ _ [_, _, _, _, _, _, _] := SH.front (p := [_, _, _, _]) hS148
    have hS150 : SH _ _ _ _ _ [_, _, _, _, _, _, _] := SH.front (p := [_, _, _]) hS149
    have hS151 : SH _ _ _ _ _ [_, _, _, _, _, _, _] := SH.front (p := [_, _, _, _, _]) hS150
    have hS152 : SH _ _ _ _ _ [_, _, _] := SH.sublist hS151 (.cons_cons _ (.cons_cons _ (.cons_cons _ (.cons _ (.cons _ (.cons _ (.cons _ .slnil)))))))
    exact qe_ret (vs := [_]) Tryz.results137 ⟨⟨_, _, rfl, run_loadVar_at tf26 (cs := [.slice a90 n91 c92, .slice a137 1 1]) (fun j c e => by rw [Nat.zero_add, hS148.mem_obj (.head _)]; exact e) (.inl ⟨rfl, rfl, rfl⟩)⟩, trivial⟩ ⟨a90, n91, c92, a137, 1, 1, a122, n123, c124, K139, rfl, hS152, (SliceAt.mono ((hS120.le.trans hl134).trans hl140) hs93), hs141, (SliceAt.mono (hl134.trans hl140) hs125), hr126⟩
   ·have h130 := cond_f hb129 h117
    refine sr ?_
    refine wl_val wn rfl (rv_eql rfl rfl) ?_
    refine va rfl rfl ?_
    refine nq ?_
    refine wc_cond rfl (fun hb153 => ?_) (fun hb153 => ?_)
    ·have h154 := cond_t hb153 h130
     refine wc_region ?_
     refine wl_buildSlice (t := tStr) (n := 1) (pv := [(0, sv [98, 105, 103])]) (cs := [sv [98, 105, 103]]) (xs := [([98, 105, 103] : Str)]) wn rfl Tryz.underlying23 tf9 rfl rfl rfl (by kernel_rfl) rfl rfl (lit_cons (u := sv [98, 105, 103]) (z := ([98, 105, 103] : Str)) ⟨rfl, (by decide : ([98, 105, 103] : Str).length ≤ maxLen)⟩ lit_nil) hS128 ?_
     intro a155 w156 K157 hl158 hs159 hS160
     refine wl_val wn rfl (rv_build (cs := #[.slice a155 1 1, sv [108, 97, 114, 103]]) sp106 tf106 rfl (by kernel_rfl)) ?_
     refine wl_buildSlice (t := tStr) (n := 3) (pv := [(0, sv [98, 105, 103]), (1, sv [114, 101, 100]), (2, sv [102, 111, 120])]) (cs := [sv [98, 105, 103], sv [114, 101, 100], sv [102, 111, 120]]) (xs := [([98, 105, 103] : Str), ([114, 101, 100] : Str), ([102, 111, 120] : Str)]) wn rfl Tryz.underlying23 tf9 rfl rfl rfl (by kernel_rfl) rfl rfl (lit_cons (u := sv [98, 105, 103]) (z := ([98, 105, 103] : Str)) ⟨rfl, (by decide : ([98, 105, 103] : Str).length ≤ maxLen)⟩ (lit_cons (u := sv [114, 101, 100]) (z := ([114, 101, 100] : Str)) ⟨rfl, (by decide : ([114, 101, 100] : Str).length ≤ maxLen)⟩ (lit_cons (u := sv [102, 111, 120]) (z := ([102, 111, 120] : Str)) ⟨rfl, (by decide : ([102, 111, 120] : Str).length ≤ maxLen)⟩ lit_nil))) hS160 ?_
     intro a161 w162 K163 hl164 hs165 hS166
     refine wl_val wn rfl (rv_build (cs := #[.slice a161 3 3, sv [102, 111, 120]]) sp106 tf106 rfl (by kernel_rfl)) ?_
     refine wl_buildSlice (t := tStr) (n := 2) (pv := [(0, sv [110, 101, 119]), (1, sv [121, 111, 114, 107])]) (cs := [sv [110, 101, 119], sv [121, 111, 114, 107]]) (xs := [([110, 101, 119] : Str), ([121, 111, 114, 107] : Str)]) wn rfl Tryz.underlying23 tf9 rfl rfl rfl (by kernel_rfl) rfl rfl (lit_cons (u := sv [110, 101, 119]) (z := ([110, 101, 119] : Str)) ⟨rfl, (by decide : ([110, 101, 119] : Str).length ≤ maxLen)⟩ (lit_cons (u := sv [121, 111, 114, 107]) (z := ([121, 111, 114, 107] : Str)) ⟨rfl, (by decide : ([121, 111, 114, 107] : Str).length ≤ maxLen)⟩ lit_nil)) hS166 ?_
     intro a167 w168 K169 hl170 hs171 hS172
     refine wl_val wn rfl (rv_build (cs := #[.slice a167 2 2, sv [110, 121]]) sp106 tf106 rfl (by kernel_rfl)) ?_
     refine wl_buildSlice (t := tGSyn) (n := 3) (pv := [(0, .agg #[.slice a155 1 1, sv [108, 97, 114, 103]]), (1, .agg #[.slice a161 3 3, sv [102, 111, 120]]), (2, .agg #[.slice a167 2 2, sv [110, 121]])]) (cs := [.slice a155 1 1, sv [108, 97, 114, 103], .slice a161 3 3, sv [102, 111, 120], .slice a167 2 2, sv [110, 121]]) (xs := [(GSyn.mk ([([98, 105, 103] : Str)] : List Str) ([108, 97, 114, 103] : Str)), (GSyn.mk ([([98, 105, 103] : Str), ([114, 101, 100] : Str), ([102, 111, 120] : Str)] : List Str) ([102, 111, 120] : Str)), (GSyn.mk ([([110, 101, 119] : Str), ([121, 111, 114, 107] : Str)] : List Str) ([110, 121] : Str))]) wn rfl Tryz.underlying24 tf106 rfl rfl rfl (by kernel_rfl) rfl rfl (lit_cons (u := .agg #[.slice a155 1 1, sv [108, 97, 114, 103]]) (z := (GSyn.mk ([([98, 105, 103] : Str)] : List Str) ([108, 97, 114, 103] : Str))) ⟨a155, 1, 1, rfl, (SliceAt.mono (hl164.trans hl170) hs159), (by decide : ([108, 97, 114, 103] : Str).length ≤ maxLen)⟩ (lit_cons (u := .agg #[.slice a161 3 3, sv [102, 111, 120]]) (z := (GSyn.mk ([([98, 105, 103] : Str), ([114, 101, 100] : Str), ([102, 111, 120] : Str)] : List Str) ([102, 111, 120] : Str))) ⟨a161, 3, 3, rfl, (SliceAt.mono hl170 hs165), (by decide : ([102, 111, 120] : Str).length ≤ maxLen)⟩ (lit_cons (u := .agg #[.slice a167 2 2, sv [110, 121]]) (z := (GSyn.mk ([([110, 101, 119] : Str), ([121, 111, 114, 107] : Str)] : List Str) ([110, 121] : Str))) ⟨a167, 2, 2, rfl, hs171, (by decide : ([110, 121] : Str).length ≤ maxLen)⟩ lit_nil))) hS172 ?_
     intro a173 w174 K175 hl176 hs177 hS178
     refine wl_val wn rfl (rv_fieldAddr ff26_1 rfl) ?_
     have hS179 : SH _ _ _ _ _ [_, _, _, _, _, _, _, _, _] := SH.front (p := [_, _, _, _, _, _]) hS178
     refine wl_store (cs' := [.slice a90 n91 c92, .slice a173 3 3]) (v := .slice a173 3 3) wn tf24 rfl rfl rfl (by simp [Value.cells, Value.oneCell']) hS179 rfl rfl ?_
     intro w180 hS181
     refine nb ?_
     refine qr ?_
     refine wl_val wn rfl (rv_loadmS (ds := [.slice a90 n91 c92, .slice a173 3 3]) tf26 rfl (.head _) hS181 rfl rfl) ?_
     have hS182 : SH _ _ _ _ _ [_, _, _, _, _, _, _, _, _] := SH.front (p := [_, _, _, _, _, _]) hS181
     refine wl_store (cs' := [.slice a90 n91 c92, .slice a173 3 3]) (v := .agg #[.slice a90 n91 c92, .slice a173 3 3]) wn tf26 rfl rfl rfl (by simp [Value.cells, Value.oneCell']) hS182 rfl rfl ?_
     intro w183 hS184
     refine nq ?_
     refine wc_ret ?_
     obtain rfl := oi h154
     have hS185 : SH _ _ _ _ _ [_, _, _, _, _, _, _, _, _] := SH.front (p := [_, _, _, _, _, _]) hS184
     have hS186 : SH _ _ _ _ _ [_, _, _, _, _, _, _, _, _] := SH.front (p := [_, _, _]) hS185
     have hS187 : SH _ _ _ _ _ [_, _, _, _, _, _, _, _, _] := SH.front (p := [_, _, _, _, _, _, _]) hS186
     have hS188 : SH _ _ _ _ _ [_, _, _] := SH.sublist hS187 (.cons_cons _ (.cons_cons _ (.cons_cons _ (.cons _ (.cons _ (.cons _ (.cons _ (.cons _ (.cons _ .slnil)))))))))
     exact qe_ret (vs := [_]) Tryz.results137 ⟨⟨_, _, rfl, run_loadVar_at tf26 (cs := [.slice a90 n91 c92, .slice a173 3 3]) (fun j c e => by rw [Nat.zero_add, hS184.mem_obj (.head _)]; exact e) (.inl ⟨rfl, rfl, rfl⟩)⟩, trivial⟩ ⟨a90, n91, c92, a173, 3, 3, a122, n123, c124, K175, rfl, hS188, (SliceAt.mono ((((hS120.le.trans hl158).trans hl164).trans hl170).trans hl176) hs93), hs177, (SliceAt.mono (((hl158.trans hl164).trans hl170).trans hl176) hs125), hr126⟩
    ·have h154 := cond_f hb153 h130
     refine wc_skip ?_
     refine qe_block ?_
     refine qr ?_
     refine wl_val wn rfl (rv_loadmS (ds := [.slice a90 n91 c92, .slice a94 n95 c96]) tf26 rfl (.tail _ (.tail _ (.head _))) hS128 rfl rfl) ?_
     have hS189 : SH _ _ _ _ _ [_, _, _, _, _] := SH.front (p := [_]) hS128
     refine wl_store (cs' := [.slice a90 n91 c92, .slice a94 n95 c96]) (v := .agg #[.slice a90 n91 c92, .slice a94 n95 c96]) wn tf26 rfl rfl rfl (by simp [Value.cells, Value.oneCell']) hS189 rfl rfl ?_
     intro w190 hS191
     refine nq ?_
     refine wc_ret ?_
     obtain rfl := oi h154
     have hS192 : SH _ _ _ _ _ [_, _, _, _, _] := SH.front (p := [_]) hS191
     have hS193 : SH _ _ _ _ _ [_, _, _, _, _] := SH.front (p := [_, _, _, _]) hS192
     have hS194 : SH _ _ _ _ _ [_, _, _, _, _] := SH.front (p := [_, _, _, _]) hS193
     have hS195 : SH _ _ _ _ _ [_, _, _] := SH.sublist hS194 (.cons_cons _ (.cons_cons _ (.cons_cons _ (.cons _ (.cons _ .slnil)))))
     exact qe_ret (vs := [_]) Tryz.results137 ⟨⟨_, _, rfl, run_loadVar_at tf26 (cs := [.slice a90 n91 c92, .slice a94 n95 c96]) (fun j c e => by rw [Nat.zero_add, hS191.mem_obj (.head _)]; exact e) (.inl ⟨rfl, rfl, rfl⟩)⟩, trivial⟩ ⟨a90, n91, c92, a94, n95, c96, a122, n123, c124, K118, rfl, hS195, (SliceAt.mono hS120.le hs93), (SliceAt.mono hS120.le hs97), hs125, hr126⟩

theorem ok_spec_l30Rd_of (F : Nat) {w : World} {K : KMap} {g1 : Nat} {a2 : Option Addr} {n3 c4 : Nat} {a7 : Option Addr} {n8 c9 : Nat} {p0_r : GL30Rd} {p1_list : List Str} {r : Str × GL30Rd} (hS : SH w K (List.flatMap Item.gs [obj g1 [.slice a2 n3 c4, .int .i64 p0_r.p_] 141]) w K [obj g1 [.slice a2 n3 c4, .int .i64 p0_r.p_] 141]) (hs5 : SliceAt tU8 K a2 n3 c4 p0_r.b_) (hr6 : rng64 p0_r.p_) (hs10 : SliceAt tStr K a7 n8 c9 p1_list) (hm : M.spec_l30Rd_of F p0_r p1_list = some r) :
  Calls Tryz.prog 46 #[.pointer (some ⟨g1, 0, none⟩), .slice a7 n8 c9] w fun e w' => ∃ (a_2 : Option Addr) (n_3 c_4 : Nat) (K' : KMap), e = .returned (sv r.1) ∧ SH w K (List.flatMap Item.gs [obj g1 [.slice a2 n3 c4, .int .i64 p0_r.p_] 141]) w' K' [obj g1 [.slice a_2 n_3 c_4, .int .i64 r.2.p_] 141] ∧ r.1.length ≤ maxLen ∧ SliceAt tU8 K' a_2 n_3 c_4 r.2.b_ ∧ rng64 r.2.p_ := by
 rw [M.spec_l30Rd_of] at hm
 refine calls_in Tryz.func46 rfl Tryz.ntmps46 rfl ?_
 refine sr ?_
 refine wl_val wn rfl (rv_assign (v := sv []) rfl) ?_
 refine nr ?_
 refine vm rfl rfl ?_
 refine vm rfl rfl ?_
 refine vm rfl rfl ?_
 refine wl_val wn rfl (rv_len (t := tStr) Tryz.underlying23 rfl hs10) ?_
 obtain ⟨r11, hx12, h13⟩ := ob hm
 refine wl_call wn rfl (rt_call (vs := [.pointer (some ⟨g1, 0, none⟩), .int .i64 (p1_list.length : Int)]) co95 rfl) ((ok_spec_l30Rd_pick F) (SH.enter (Lin := [_]) hS) hs5 hr6 (rng_nat (SliceAt.max hs10)) hx12) ?_
 rintro e23 w15 ⟨a18, n19, c20, K14, rfl, hS16, hr17, hs21, hr22⟩
 refine ⟨_, rfl, ?_⟩
 have hS24 : SH _ _ _ _ _ [_] := SH.call (Lin := [_]) hS hS16
 obtain ⟨x25, hx26, h27⟩ := ob h13
 refine wl_indexAddr (t := tStr) wn rfl Tryz.underlying23 tf9 rfl rfl (SliceAt.mono hS16.le hs10) hx26 ?_
 intro b28 o29 u30 hu31 ha32
 obtain ⟨rfl, hl33⟩ := hu31
 have ha34 : AtK _ b28 o29 [sv x25] := ha32
 refine wl_val wn rfl (rv_load1 tf9 rfl hS24 (ha34 0 _ rfl)) ?_
 refine va rfl rfl ?_
 refine nq ?_
 refine wc_ret ?_
 obtain rfl := oi h27
 exact qe_ret (vs := [_]) Tryz.results46 ⟨rfl, trivial⟩ ⟨a18, n19, c20, K14, rfl, hS24, hl33, hs21, hr22⟩

theorem ok_spec_l30Raw (F : Nat) {w : World} {K : KMap} {g1 : Nat} {a2 : Option Addr} {n3 c4 : Nat} {p0_r : GL30Rd} {r : Str × GL30Rd} (hS : SH w K (List.flatMap Item.gs [obj g1 [.slice a2 n3 c4, .int .i64 p0_r.p_] 141]) w K [obj g1 [.slice a2 n3 c4, .int .i64 p0_r.p_] 141]) (hs5 : SliceAt tU8 K a2 n3 c4 p0_r.b_) (hr6 : rng64 p0_r.p_) (hm : M.spec_l30Raw F p0_r = some r) :
  Calls Tryz.prog 184 #[.pointer (some ⟨g1, 0, none⟩)] w fun e w' => ∃ (a_2 : Option Addr) (n_3 c_4 : Nat) (K' : KMap), e = .returned (sv r.1) ∧ SH w K (List.flatMap Item.gs [obj g1 [.slice a2 n3 c4, .int .i64 p0_r.p_] 141]) w' K' [obj g1 [.slice a_2 n_3 c_4, .int .i64 r.2.p_] 141] ∧ r.1.length ≤ maxLen ∧ SliceAt tU8 K' a_2 n_3 c_4 r.2.b_ ∧ rng64 r.2.p_ := by
 rw [M.spec_l30Raw] at hm
 refine calls_in Tryz.func184 rfl Tryz.ntmps184 rfl ?_
 refine sr ?_
 refine wl_val wn rfl (rv_assign (v := sv []) rfl) ?_
 refine nr ?_
 refine vm rfl rfl ?_
 refine wl_buildSlice (t := tStr) (n := 16) (pv := [(0, sv [99, 97, 116]), (1, sv [67, 97, 116, 115]), (2, sv [100, 111, 103]), (3, sv [100, 111, 103, 115]), (4, sv [114, 117, 110]), (5, sv [82, 85, 78, 78, 73, 78, 71]), (6, sv [116, 104, 101]), (7, sv [114, 101, 100]), (8, sv [98, 105, 103]), (9, sv [110, 101, 119, 32, 121, 111, 114, 107]), (10, sv [78, 101, 119, 32, 32, 89, 111, 114, 107]), (11, sv [110, 121]), (12, sv [102, 111, 120]), (13, sv [112, 97, 115, 115, 101, 100]), (14, sv [120, 49]), (15, sv [97, 118, 101, 114, 121, 118, 101, 114, 121, 108, 111, 110, 103, 119, 111, 114, 100])]) (cs := [sv [99, 97, 116], sv [67, 97, 116, 115], sv [100, 111, 103], sv [100, 111, 103, 115], sv [114, 117, 110], sv [82, 85, 78, 78, 73, 78, 71], sv [116, 104, 101], sv [114, 101, 100], sv [98, 105, 103], sv [110, 101, 119, 32, 121, 111, 114, 107], sv [78, 101, 119, 32, 32, 89, 111, 114, 107], sv [110, 121], sv [102, 111, 120], sv [112, 97, 115, 115, 101, 100], sv [120, 49], sv [97, 118, 101, 114, 121, 118, 101, 114, 121, 108, 111, 110, 103, 119, 111, 114, 100]]) (xs := [([99, 97, 116] : Str), ([67, 97, 116, 115] : Str), ([100, 111, 103] : Str), ([100, 111, 103, 115] : Str), ([114, 117, 110] : Str), ([82, 85, 78, 78, 73, 78, 71] : Str), ([116, 104, 101] : Str), ([114, 101, 100] : Str), ([98, 105, 103] : Str), ([110, 101, 119, 32, 121, 111, 114, 107] : Str), ([78, 101, 119, 32, 32, 89, 111, 114, 107] : Str), ([110, 121] : Str), ([102, 111, 120] : Str), ([112, 97, 115, 115, 101, 100] : Str), ([120, 49] : Str), ([97, 118, 101, 114, 121, 118, 101, 114, 121, 108, 111, 110, 103, 119, 111, 114, 100] : Str)]) wn rfl Tryz.underlying23 tf9 rfl rfl rfl (by kernel_rfl) rfl rfl (lit_cons (u := sv [99, 97, 116]) (z := ([99, 97, 116] : Str)) ⟨rfl, (by decide : ([99, 97, 116] : Str).length ≤ maxLen)⟩ (lit_cons (u := sv [67, 97, 116, 115]) (z := ([67, 97, 116, 115] : Str)) ⟨rfl, (by decide : ([67, 97, 116, 115] : Str).length ≤ maxLen)⟩ (lit_cons (u := sv [100, 111, 103]) (z := ([100, 111, 103] : Str)) ⟨rfl, (by decide : ([100, 111, 103] : Str).length ≤ maxLen)⟩ (lit_cons (u := sv [100, 111, 103, 115]) (z := ([100, 111, 103, 115] : Str)) ⟨rfl, (by decide : ([100, 111, 103, 115] : Str).length ≤ maxLen)⟩ (lit_cons (u := sv [114, 117, 110]) (z := ([114, 117, 110] : Str)) ⟨rfl, (by decide : ([114, 117, 110] : Str).length ≤ maxLen)⟩ (lit_cons (u := sv [82, 85, 78, 78, 73, 78, 71]) (z := ([82, 85, 78, 78, 73, 78, 71] : Str)) ⟨rfl, (by decide : ([82, 85, 78, 78, 73, 78, 71] : Str).length ≤ maxLen)⟩ (lit_cons (u := sv [116, 104, 101]) (z := ([116, 104, 101] : Str)) ⟨rfl, (by decide : ([116, 104, 101] : Str).length ≤ maxLen)⟩ (lit_cons (u := sv [114, 101, 100]) (z := ([114, 101, 100] : Str)) ⟨rfl, (by decide : ([114, 101, 100] : Str).length ≤ maxLen)⟩ (lit_cons (u := sv [98, 105, 103]) (z := ([98, 105, 103] : Str)) ⟨rfl, (by decide : ([98, 105, 103] : Str).length ≤ maxLen)⟩ (lit_cons (u := sv [110, 101, 119, 32, 121, 111, 114, 107]) (z := ([110, 101, 119, 32, 121, 111, 114, 107] : Str)) ⟨rfl, (by decide : ([110, 101, 119, 32, 121, 111, 114, 107] : Str).length ≤ maxLen)⟩ (lit_cons (u := sv [78, 101, 119, 32, 32, 89, 111, 114, 107]) (z := ([78, 101, 119, 32, 32, 89, 111, 114, 107] : Str)) ⟨rfl, (by decide : ([78, 101, 119, 32, 32, 89, 111, 114, 107] : Str).length ≤ maxLen)⟩ (lit_cons (u := sv [110, 121]) (z := ([110, 121] : Str)) ⟨rfl, (by decide : ([110, 121] : Str).length ≤ maxLen)⟩ (lit_cons (u := sv [102, 111, 120]) (z := ([102, 111, 120] : Str)) ⟨rfl, (by decide : ([102, 111, 120] : Str).length ≤ maxLen)⟩ (lit_cons (u := sv [112, 97, 115, 115, 101, 100]) (z := ([112, 97, 115, 115, 101, 100] : Str)) ⟨rfl, (by decide : ([112, 97, 115, 115, 101, 100] : Str).length ≤ maxLen)⟩ (lit_cons (u := sv [120, 49]) (z := ([120, 49] : Str)) ⟨rfl, (by decide : ([120, 49] : Str).length ≤ maxLen)⟩ (lit_cons (u := sv [97, 118, 101, 114, 121, 118, 101, 114, 121, 108, 111, 110, 103, 119, 111, 114, 100]) (z := ([97, 118, 101, 114, 121, 118, 101, 114, 121, 108, 111, 110, 103, 119, 111, 114, 100] : Str)) ⟨rfl, (by decide : ([97, 118, 101, 114, 121, 118, 101, 114, 121, 108, 111, 110, 103, 119, 111, 114, 100] : Str).length ≤ maxLen)⟩ lit_nil)))))))))))))))) hS ?_
 intro a7 w8 K9 hl10 hs11 hS12
 obtain ⟨r13, hx14, h15⟩ := ob hm
 have hS16 : SH _ _ _ _ _ [_, _] := SH.front (p := [_]) hS12
 refine wl_call wn rfl (rt_call (vs := [.pointer (some ⟨g1, 0, none⟩), .slice a7 16 16]) co46 rfl) ((ok_spec_l30Rd_of F) (SH.enter (Lin := [_]) hS16) (SliceAt.mono hl10 hs5) hr6 hs11 hx14) ?_
 rintro e26 w18 ⟨a21, n22, c23, K17, rfl, hS19, hl20, hs24, hr25⟩
 refine ⟨_, rfl, ?_⟩
 have hS27 : SH _ _ _ _ _ [_, _] := SH.call (Lin := [_]) hS16 hS19
 refine va rfl rfl ?_
 refine nq ?_
 refine wc_ret ?_
 obtain rfl := oi h15
 have hS28 : SH _ _ _ _ _ [_] := SH.sublist hS27 (.cons_cons _ (.cons _ .slnil))
 exact qe_ret (vs := [_]) Tryz.results184 ⟨rfl, trivial⟩ ⟨a21, n22, c23, K17, rfl, hS28, hl20, hs24, hr25⟩

theorem ok_spec_l30Text (F : Nat) {w : World} {K : KMap} {g1 : Nat} {a2 : Option Addr} {n3 c4 : Nat} {p0_r : GL30Rd} {r : Str × GL30Rd} (hS : SH w K (List.flatMap Item.gs [obj g1 [.slice a2 n3 c4, .int .i64 p0_r.p_] 141]) w K [obj g1 [.slice a2 n3 c4, .int .i64 p0_r.p_] 141]) (hs5 : SliceAt tU8 K a2 n3 c4 p0_r.b_) (hr6 : rng64 p0_r.p_) (hm : M.spec_l30Text F p0_r = some r) :
  Calls Tryz.prog 178 #[.pointer (some ⟨g1, 0, none⟩)] w fun e w' => ∃ (a_2 : Option Addr) (n_3 c_4 : Nat) (K' : KMap), e = .returned (sv r.1) ∧ SH w K (List.flatMap Item.gs [obj g1 [.slice a2 n3 c4, .int .i64 p0_r.p_] 141]) w' K' [obj g1 [.slice a_2 n_3 c_4, .int .i64 r.2.p_] 141] ∧ r.1.length ≤ maxLen ∧ SliceAt tU8 K' a_2 n_3 c_4 r.2.b_ ∧ rng64 r.2.p_ := by
 rw [M.spec_l30Text] at hm
 refine calls_in Tryz.func178 rfl Tryz.ntmps178 rfl ?_
 refine sr ?_
 refine wl_val wn rfl (rv_assign (v := sv []) rfl) ?_
 refine nr ?_
 refine wl_val wn rfl (rv_assign (v := sv []) rfl) ?_
 refine nsr ?_
 refine vm rfl rfl ?_
 obtain ⟨r7, hx8, h9⟩ := ob hm
 refine wl_call wn rfl (rt_call (vs := [.pointer (some ⟨g1, 0, none⟩), .int .i64 9]) co95 rfl) ((ok_spec_l30Rd_pick F) (SH.enter (Lin := [_]) hS) hs5 hr6 (by decide : rng64 9) hx8) ?_
 rintro e19 w11 ⟨a14, n15, c16, K10, rfl, hS12, hr13, hs17, hr18⟩
 refine ⟨_, rfl, ?_⟩
 have hS20 : SH _ _ _ _ _ [_] := SH.call (Lin := [_]) hS hS12
 refine va rfl rfl ?_
 refine nq ?_
 obtain ⟨o21, h22, h23⟩ := ob h9
 refine wc_cutg (fun E' w' => ∃ (a29 : Option Addr) (n30 c31 : Nat) (K24 : KMap), E' = [(0, .pointer (some ⟨g1, 0, none⟩)), (3, sv o21.1)] ∧ SH w K (List.flatMap Item.gs [obj g1 [.slice a2 n3 c4, .int .i64 p0_r.p_] 141]) w' K24 [obj g1 [.slice a29 n30 c31, .int .i64 o21.2.p_] 141] ∧ KLe K10 K24 ∧ o21.1.length ≤ maxLen ∧ SliceAt tU8 K24 a29 n30 c31 o21.2.b_ ∧ rng64 o21.2.p_) ?_ ?_
 ·refine wc_block ?_
  obtain ⟨r35, h36, h37⟩ := ob h22
  refine wc_while' (fun (s34 : Str × Int × GL30Rd) E' w' => ∃ (a44 : Option Addr) (n45 c46 : Nat) (K38 : KMap), E' = [(0, .pointer (some ⟨g1, 0, none⟩)), (3, sv s34.1), (4, .int .i64 s34.2.1)] ∧ SH w K (List.flatMap Item.gs [obj g1 [.slice a2 n3 c4, .int .i64 p0_r.p_] 141]) w' K38 [obj g1 [.slice a44 n45 c46, .int .i64 s34.2.2.p_] 141] ∧ KLe K10 K38 ∧ s34.1.length ≤ maxLen ∧ rng64 s34.2.1 ∧ SliceAt tU8 K38 a44 n45 c46 s34.2.2.b_ ∧ rng64 s34.2.2.p_) h36 ⟨a14, n15, c16, K10, rfl, hS20, (KLe.refl _), (by decide : ([] : Str).length ≤ maxLen), hr13, hs17, hr18⟩ ⟨rfl, rfl, rfl, trivial⟩ ?_
  rintro s34 _ w40 r49 h50 hx51 ⟨a44, n45, c46, K38, rfl, hS41, hl39, hl42, hr43, hs47, hr48⟩
  refine wc_seq ?_
  refine sr ?_
  refine vm rfl rfl ?_
  refine wl_val wn rfl (rv_gtr rfl rfl) ?_
  refine nq ?_
  refine wc_cond rfl (fun hb52 => ?_) (fun hb52 => ?_)
  ·have h53 := cond_t hb52 h50
   refine wc_skip ?_
   refine qs ?_
   refine wc_block ?_
   refine wc_region ?_
   refine vm rfl rfl ?_
   refine vm rfl rfl ?_
   obtain ⟨r54, hx55, h56⟩ := ob h53
   refine wl_call wn rfl (rt_call (vs := [.pointer (some ⟨g1, 0, none⟩)]) co184 rfl) ((ok_spec_l30Raw F) (SH.enter (Lin := [_]) hS41) hs47 hr48 hx55) ?_
   rintro e66 w58 ⟨a61, n62, c63, K57, rfl, hS59, hl60, hs64, hr65⟩
   refine ⟨_, rfl, ?_⟩
   have hS67 : SH _ _ _ _ _ [_] := SH.call (Lin := [_]) hS41 hS59
   obtain ⟨x68, hx69, h70⟩ := ob h56
   refine wl_val wn rfl (rv_sadd rfl rfl hx69) ?_
   refine vm rfl rfl ?_
   refine wl_buildSlice (t := tStr) (n := 5) (pv := [(0, sv [32]), (1, sv [32]), (2, sv [44, 32]), (3, sv [45]), (4, sv [46, 32])]) (cs := [sv [32], sv [32], sv [44, 32], sv [45], sv [46, 32]]) (xs := [([32] : Str), ([32] : Str), ([44, 32] : Str), ([45] : Str), ([46, 32] : Str)]) wn rfl Tryz.underlying23 tf9 rfl rfl rfl (by kernel_rfl) rfl rfl (lit_cons (u := sv [32]) (z := ([32] : Str)) ⟨rfl, (by decide : ([32] : Str).length ≤ maxLen)⟩ (lit_cons (u := sv [32]) (z := ([32] : Str)) ⟨rfl, (by decide : ([32] : Str).length ≤ maxLen)⟩ (lit_cons (u := sv [44, 32]) (z := ([44, 32] : Str)) ⟨rfl, (by decide : ([44, 32] : Str).length ≤ maxLen)⟩ (lit_cons (u := sv [45]) (z := ([45] : Str)) ⟨rfl, (by decide : ([45] : Str).length ≤ maxLen)⟩ (lit_cons (u := sv [46, 32]) (z := ([46, 32] : Str)) ⟨rfl, (by decide : ([46, 32] : Str).length ≤ maxLen)⟩ lit_nil))))) hS67 ?_
   intro a71 w72 K73 hl74 hs75 hS76
   obtain ⟨r77, hx78, h79⟩ := ob h70
   have hS80 : SH _ _ _ _ _ [_, _] := SH.front (p := [_]) hS76
   refine wl_call wn rfl (rt_call (vs := [.pointer (some ⟨g1, 0, none⟩), .slice a71 5 5]) co46 rfl) ((ok_spec_l30Rd_of F) (SH.enter (Lin := [_]) hS80) (SliceAt.mono hl74 hs64) hr65 hs75 hx78) ?_
   rintro e90 w82 ⟨a85, n86, c87, K81, rfl, hS83, hl84, hs88, hr89⟩
   refine ⟨_, rfl, ?_⟩
   have hS91 : SH _ _ _ _ _ [_, _] := SH.call (Lin := [_]) hS80 hS83
   obtain ⟨x92, hx93, h94⟩ := ob h79
   refine wl_val wn rfl (rv_sadd rfl rfl hx93) ?_
   refine va rfl rfl ?_
   refine nb ?_
   refine qe_seq ?_
   refine wc_region ?_
   refine vm rfl rfl ?_
   refine wl_val wn rfl (rv_sub rfl rfl) ?_
   refine va rfl rfl ?_
   refine wl_nil ?_
   obtain rfl := oi h94
   have hS95 : SH _ _ _ _ _ [_] := SH.sublist hS91 (.cons_cons _ (.cons _ .slnil))
   exact qe_mid' ⟨_, rfl, a85, n86, c87, K81, rfl, hS95, (((hl39.trans hS59.le).trans hl74).trans hS83.le), (len_cat hx93), (w64_rng _), hs88, hr89⟩ ⟨rfl, rfl, rfl, trivial⟩
  ·have h53 := cond_f hb52 h50
   refine wc_exit ?_
   refine qe_then_exit ?_
   refine qe_then_exit ?_
   obtain rfl := oi h53
   have e96 := hx51 _ rfl
   subst e96
   refine qe_block_eq ?_
   obtain rfl := oi h37
   exact qe_mid' ⟨a44, n45, c46, K38, rfl, hS41, hl39, hl42, hs47, hr48⟩ ⟨rfl, rfl, trivial⟩
 ·rintro _ w26 ⟨a29, n30, c31, K24, rfl, hS27, hl25, hl28, hs32, hr33⟩
  refine qr ?_
  refine vm rfl rfl ?_
  refine va rfl rfl ?_
  refine nq ?_
  refine wc_ret ?_
  obtain rfl := oi h23
  exact qe_ret (vs := [_]) Tryz.results178 ⟨rfl, trivial⟩ ⟨a29, n30, c31, K24, rfl, hS27, hl28, hs32, hr33⟩

set_option maxHeartbeats 2000000 in
theorem ok_spec_l30Doc (F : Nat) {w : World} {K : KMap} {g1 : Nat} {a2 : Option Addr} {n3 c4 : Nat} {p0_r : GL30Rd} {p1_id : Int} {r : GDoc × GL30Rd} (hS : SH w K (List.flatMap Item.gs [obj g1 [.slice a2 n3 c4, .int .i64 p0_r.p_] 141]) w K [obj g1 [.slice a2 n3 c4, .int .i64 p0_r.p_] 141]) (hs5 : SliceAt tU8 K a2 n3 c4 p0_r.b_) (hr6 : rng64 p0_r.p_) (hr7 : rng64 p1_id) (hm : M.spec_l30Doc F p0_r p1_id = some r) :
  Calls Tryz.prog 167 #[.pointer (some ⟨g1, 0, none⟩), .int .i64 p1_id] w fun e w' => ∃ (a_2 : Option Addr) (n_3 c_4 : Nat) (a_6 : Option Addr) (n_7 c_8 : Nat) (a_10 : Option Addr) (n_11 c_12 : Nat) (K' : KMap), e = .returned (.agg #[.int .i64 r.1.Id, .slice a_2 n_3 c_4, .slice a_6 n_7 c_8]) ∧ SH w K (List.flatMap Item.gs [obj g1 [.slice a2 n3 c4, .int .i64 p0_r.p_] 141]) w' K' [tail (.slice a_2 n_3 c_4) 109 2, tail (.slice a_6 n_7 c_8) 152 2, obj g1 [.slice a_10 n_11 c_12, .int .i64 r.2.p_] 141] ∧ rng64 r.1.Id ∧ SliceAt tGField K' a_2 n_3 c_4 r.1.Fields ∧ SliceAt tGAttr K' a_6 n_7 c_8 r.1.Nums ∧ SliceAt tU8 K' a_10 n_11 c_12 r.2.b_ ∧ rng64 r.2.p_ := by
 rw [M.spec_l30Doc] at hm
 refine calls_in Tryz.func167 rfl Tryz.ntmps167 rfl ?_
 refine sr ?_
 refine wl_alloc wn rfl tf44 hS ?_
 intro g8 w9 hS10
 have hS11 : SH _ _ _ _ _ [obj g8 [.int .i64 0, .slice none 0 0, .slice none 0 0] 44, _] := hS10
 refine nr ?_
 refine vm rfl rfl ?_
 refine wl_val wn rfl (rv_build (cs := #[.int .i64 p1_id, .slice none 0 0, .slice none 0 0]) sp44 tf44 rfl (by kernel_rfl)) ?_
 refine wl_alloc wn rfl tf44 hS11 ?_
 intro g12 w13 hS14
 have hS15 : SH _ _ _ _ _ [obj g12 [.int .i64 0, .slice none 0 0, .slice none 0 0] 44, _, _] := hS14
 refine wl_store (cs' := [.int .i64 p1_id, .slice none 0 0, .slice none 0 0]) (v := .agg #[.int .i64 p1_id, .slice none 0 0, .slice none 0 0]) wn tf44 rfl rfl rfl (by simp [Value.cells, Value.oneCell']) hS15 rfl rfl ?_
 intro w16 hS17
 refine nsr ?_
 refine vm rfl rfl ?_
 obtain ⟨r18, hx19, h20⟩ := ob hm
 have hS21 : SH _ _ _ _ _ [_, _, _] := SH.front (p := [_, _]) hS17
 refine wl_call wn rfl (rt_call (vs := [.pointer (some ⟨g1, 0, none⟩), .int .i64 6]) co95 rfl) ((ok_spec_l30Rd_pick F) (SH.enter (Lin := [_]) hS21) hs5 hr6 (by decide : rng64 6) hx19) ?_
 rintro e31 w23 ⟨a26, n27, c28, K22, rfl, hS24, hr25, hs29, hr30⟩
 refine ⟨_, rfl, ?_⟩
 have hS32 : SH _ _ _ _ _ [_, _, _] := SH.call (Lin := [_]) hS21 hS24
 refine wl_val wn rfl (rv_gtr rfl rfl) ?_
 refine nq ?_
 obtain ⟨o33, h34, h35⟩ := ob h20
 refine wc_cutg (fun E' w' => ∃ (a40 : Option Addr) (n41 c42 : Nat) (a46 : Option Addr) (n47 c48 : Nat) (a50 : Option Addr) (n51 c52 : Nat) (K36 : KMap), E' = [(0, .pointer (some ⟨g1, 0, none⟩)), (4, .pointer (some ⟨g8, 0, none⟩)), (5, .pointer (some ⟨g12, 0, none⟩))] ∧ SH w K (List.flatMap Item.gs [obj g1 [.slice a2 n3 c4, .int .i64 p0_r.p_] 141]) w' K36 [obj g1 [.slice a40 n41 c42, .int .i64 o33.1.p_] 141, obj g8 [.int .i64 0, .slice none 0 0, .slice none 0 0] 44, obj g12 [.int .i64 o33.2.Id, .slice a46 n47 c48, .slice a50 n51 c52] 44, tail (.slice a46 n47 c48) 109 2, tail (.slice a50 n51 c52) 152 2] ∧ KLe K22 K36 ∧ SliceAt tU8 K36 a40 n41 c42 o33.1.b_ ∧ rng64 o33.1.p_ ∧ rng64 o33.2.Id ∧ SliceAt tGField K36 a46 n47 c48 o33.2.Fields ∧ SliceAt tGAttr K36 a50 n51 c52 o33.2.Nums) ?_ ?_
 ·refine wc_cond rfl (fun hb54 => ?_) (fun hb54 => ?_)
  ·have h55 := cond_t hb54 h34
   refine wc_held (fun w' => Holds K22 w') (fun w' => HasObj g12 [.int .i64 p1_id, .slice none 0 0, .slice none 0 0] w') 8 [(1, 6), (1, 7), (1, 8), (6, 7), (6, 8), (7, 8)] mixed ?_
   have hS57 := SH.drew hS32
   refine wg_val (i := 0) (listed' := #[true, false, false, false, false, false, false, false, false]) (fun _ => True) rfl (by kernel_rfl) (pk_then (pk_then pk_body)) (by kernel_rfl) rfl (by kernel_rfl) (by kernel_rfl) rfl (.inl fun _ _ => trivial) ⟨(hS57.hasK (KLe.refl _)), (fun _ => hS57.hasObj (.tail _ (.head _))), by decide⟩ wn rfl (fun _ _ => (rv_fieldAddr ff44_1 rfl)) ?_
   refine wg_val (i := 1) (listed' := #[true, true, false, false, false, false, false, false, false]) (HasObj g12 [.int .i64 p1_id, .slice none 0 0, .slice none 0 0]) rfl (by kernel_rfl) (pk_then (pk_then pk_body)) (by kernel_rfl) rfl (by kernel_rfl) (by kernel_rfl) rfl (.inr ⟨rfl, fun _ _ h => h⟩) ⟨(hS57.hasK (KLe.refl _)), (fun _ => hS57.hasObj (.tail _ (.head _))), by decide⟩ wn rfl (fun _ h => rh_loadm1 tf41 rfl rfl h) ?_
   refine wg_val (i := 2) (listed' := #[true, true, true, false, false, false, false, false, false]) (fun _ => True) rfl (by kernel_rfl) (pk_then (pk_then pk_body)) (by kernel_rfl) rfl (by kernel_rfl) (by kernel_rfl) rfl (.inl fun _ _ => trivial) ⟨(hS57.hasK (KLe.refl _)), (fun _ => hS57.hasObj (.tail _ (.head _))), by decide⟩ wn rfl (fun _ _ => (rv_move rfl)) ?_
   refine wg_one (i := 3) (by kernel_rfl) rfl ?_
   obtain ⟨r58, hx59, h60⟩ := ob h55
   refine wl_call wn rfl (rt_call (vs := [.pointer (some ⟨g1, 0, none⟩)]) co178 rfl) ((ok_spec_l30Text F) (SH.enter (Lin := [_]) hS57) hs29 hr30 hx59) ?_
   rintro e70 w62 ⟨a65, n66, c67, K61, rfl, hS63, hl64, hs68, hr69⟩
   refine ⟨_, rfl, ?_⟩
   have hS71 : SH _ _ _ _ _ [_, _, _] := SH.call (Lin := [_]) hS57 hS63
   refine wl_nil (qe_held (listed' := #[true, true, true, true, false, false, false, false, false]) rfl ⟨(hS71.hasK hS63.le), (fun _ => hS71.hasObj (.tail _ (.head _))), by decide⟩ ?_)
   refine wg_val (i := 4) (listed' := #[true, true, true, true, true, false, false, false, false]) (fun _ => True) rfl (by kernel_rfl) (pk_then (pk_then pk_body)) (by kernel_rfl) rfl (by kernel_rfl) (by kernel_rfl) rfl (.inl fun _ _ => trivial) ⟨(hS71.hasK hS63.le), (fun _ => hS71.hasObj (.tail _ (.head _))), by decide⟩ wn rfl (fun _ _ => (rv_build (cs := #[sv [98, 111, 100, 121], sv r58.1]) sp109 tf109 rfl (by kernel_rfl))) ?_
   refine wg_one (i := 5) (by kernel_rfl) rfl ?_
   refine wl_buildSlice (t := tGField) (n := 1) (pv := [(0, .agg #[sv [98, 111, 100, 121], sv r58.1])]) (cs := [sv [98, 111, 100, 121], sv r58.1]) (xs := [(GField.mk ([98, 111, 100, 121] : Str) r58.1)]) wn rfl Tryz.underlying41 tf109 rfl rfl rfl (by kernel_rfl) rfl rfl (lit_cons (u := .agg #[sv [98, 111, 100, 121], sv r58.1]) (z := (GField.mk ([98, 111, 100, 121] : Str) r58.1)) ⟨rfl, (by decide : ([98, 111, 100, 121] : Str).length ≤ maxLen), hl64⟩ lit_nil) hS71 ?_
   intro a72 w73 K74 hl75 hs76 hS77
   refine wl_nil (qe_held (listed' := #[true, true, true, true, true, true, false, false, false]) rfl ⟨(hS77.hasK (hS63.le.trans hl75)), (fun _ => hS77.hasObj (.tail _ (.tail _ (.head _)))), by decide⟩ ?_)
   refine wg_one (i := 6) (by kernel_rfl) rfl ?_
   have hS78 := SH.nil hS77 109 2
   obtain ⟨x79, hx80, h81⟩ := ob h60
   refine wl_append (t := tGField) wn rfl Tryz.underlying41 tf109 rfl rfl rfl rfl rfl (SliceAt.nil _ _) hs76 hx80 hS78 ?_
   intro a82 n83 c84 w85 K86 hl87 hs88 hS89
   refine wl_nil (qe_held (listed' := #[true, true, true, true, true, true, true, false, false]) rfl ⟨(hS89.hasK ((hS63.le.trans hl75).trans hl87)), (fun _ => hS89.hasObj (.tail _ (.tail _ (.tail _ (.head _))))), by decide⟩ ?_)
   refine wg_val (i := 7) (listed' := #[true, true, true, true, true, true, true, true, false]) (fun _ => True) rfl (by kernel_rfl) (pk_then (pk_then pk_body)) (by kernel_rfl) rfl (by kernel_rfl) (by kernel_rfl) rfl (.inl fun _ _ => trivial) ⟨(hS89.hasK ((hS63.le.trans hl75).trans hl87)), (fun _ => hS89.hasObj (.tail _ (.tail _ (.tail _ (.head _))))), by decide⟩ wn rfl (fun _ _ => (rv_fieldAddr ff44_1 rfl)) ?_
   refine wg_one (i := 8) (by kernel_rfl) rfl ?_
   have hS90 : SH _ _ _ _ _ [_, _, _, _, _] := SH.front (p := [_, _, _]) hS89
   refine wl_store (cs' := [.int .i64 p1_id, .slice a82 n83 c84, .slice none 0 0]) (v := .slice a82 n83 c84) wn tf41 rfl rfl rfl (by simp [Value.cells, Value.oneCell']) hS90 rfl rfl ?_
   intro w91 hS92
   refine wl_nil (qe_held (listed' := #[true, true, true, true, true, true, true, true, true]) rfl ⟨(hS92.hasK ((hS63.le.trans hl75).trans hl87)), (fun h => nomatch h), by decide⟩ ?_)
   refine wg_done (by kernel_rfl) ?_
   obtain rfl := oi h81
   have hS93 := SH.nil hS92 152 2
   have hS94 : SH _ _ _ _ _ [_, _, _, _, _, _] := SH.front (p := [_, _]) hS93
   have hS95 : SH _ _ _ _ _ [_, _, _, _, _, _] := SH.front (p := [_, _]) hS94
   have hS96 : SH _ _ _ _ _ [_, _, _, _, _, _] := SH.front (p := [_, _, _, _, _]) hS95
   have hS97 : SH _ _ _ _ _ [_, _, _, _, _, _] := SH.front (p := [_, _, _, _, _]) hS96
   have hS98 : SH _ _ _ _ _ [_, _, _, _, _] := SH.sublist hS97 (.cons_cons _ (.cons_cons _ (.cons_cons _ (.cons_cons _ (.cons_cons _ (.cons _ .slnil))))))
   exact qe_mid' ⟨a65, n66, c67, a82, n83, c84, none, 0, 0, K86, rfl, hS98, ((hS63.le.trans hl75).trans hl87), (SliceAt.mono (hl75.trans hl87) hs68), hr69, hr7, hs88, (SliceAt.nil _ _)⟩ ⟨rfl, rfl, rfl, trivial⟩
  ·have h55 := cond_f hb54 h34
   refine wc_skip ?_
   obtain rfl := oi h55
   have hS99 := SH.nil hS32 109 2
   have hS100 := SH.nil hS99 152 2
   have hS101 : SH _ _ _ _ _ [_, _, _, _, _] := SH.front (p := [_]) hS100
   have hS102 : SH _ _ _ _ _ [_, _, _, _, _] := SH.front (p := [_, _, _]) hS101
   have hS103 : SH _ _ _ _ _ [_, _, _, _, _] := SH.front (p := [_, _, _, _]) hS102
   have hS104 : SH _ _ _ _ _ [_, _, _, _, _] := SH.front (p := [_, _, _, _]) hS103
   exact qe_mid' ⟨a26, n27, c28, none, 0, 0, none, 0, 0, K22, rfl, hS104, (KLe.refl _), hs29, hr30, hr7, (SliceAt.nil _ _), (SliceAt.nil _ _)⟩ ⟨rfl, rfl, rfl, trivial⟩
 ·rintro _ w38 ⟨a40, n41, c42, a46, n47, c48, a50, n51, c52, K36, rfl, hS39, hl37, hs43, hr44, hr45, hs49, hs53⟩
  refine qs ?_
  refine sr ?_
  refine vm rfl rfl ?_
  obtain ⟨r105, hx106, h107⟩ := ob h35
  refine wl_call wn rfl (rt_call (vs := [.pointer (some ⟨g1, 0, none⟩), .int .i64 3]) co95 rfl) ((ok_spec_l30Rd_pick F) (SH.enter (Lin := [_]) hS39) hs43 hr44 (by decide : rng64 3) hx106) ?_
  rintro e117 w109 ⟨a112, n113, c114, K108, rfl, hS110, hr111, hs115, hr116⟩
  refine ⟨_, rfl, ?_⟩
  have hS118 : SH _ _ _ _ _ [_, _, _, _, _] := SH.call (Lin := [_]) hS39 hS110
  refine wl_val wn rfl (rv_eql rfl rfl) ?_
  refine nq ?_
  obtain ⟨o119, h120, h121⟩ := ob h107
  refine wc_cutg (fun E' w' => ∃ (a126 : Option Addr) (n127 c128 : Nat) (a132 : Option Addr) (n133 c134 : Nat) (a136 : Option Addr) (n137 c138 : Nat) (K122 : KMap), E' = [(0, .pointer (some ⟨g1, 0, none⟩)), (4, .pointer (some ⟨g8, 0, none⟩)), (5, .pointer (some ⟨g12, 0, none⟩))] ∧ SH w K (List.flatMap Item.gs [obj g1 [.slice a2 n3 c4, .int .i64 p0_r.p_] 141]) w' K122 [obj g1 [.slice a126 n127 c128, .int .i64 o119.1.p_] 141, obj g8 [.int .i64 0, .slice none 0 0, .slice none 0 0] 44, obj g12 [.int .i64 o119.2.Id, .slice a132 n133 c134, .slice a136 n137 c138] 44, tail (.slice a132 n133 c134) 109 2, tail (.slice a136 n137 c138) 152 2] ∧ KLe K108 K122 ∧ SliceAt tU8 K122 a126 n127 c128 o119.1.b_ ∧ rng64 o119.1.p_ ∧ rng64 o119.2.Id ∧ SliceAt tGField K122 a132 n133 c134 o119.2.Fields ∧ SliceAt tGAttr K122 a136 n137 c138 o119.2.Nums) ?_ ?_
  ·refine wc_cond rfl (fun hb140 => ?_) (fun hb140 => ?_)
   ·have h141 := cond_t hb140 h120
    refine wc_held (fun w' => Holds K108 w') (fun w' => HasObj g12 [.int .i64 o33.2.Id, .slice a46 n47 c48, .slice a50 n51 c52] w') 8 [(1, 6), (1, 7), (1, 8), (6, 7), (6, 8), (7, 8)] mixed ?_
    have hS143 := SH.drew hS118
    refine wg_val (i := 0) (listed' := #[true, false, false, false, false, false, false, false, false]) (fun _ => True) rfl (by kernel_rfl) (pk_then (pk_then pk_body)) (by kernel_rfl) rfl (by kernel_rfl) (by kernel_rfl) rfl (.inl fun _ _ => trivial) ⟨(hS143.hasK (KLe.refl _)), (fun _ => hS143.hasObj (.tail _ (.tail _ (.head _)))), by decide⟩ wn rfl (fun _ _ => (rv_fieldAddr ff44_1 rfl)) ?_
    refine wg_val (i := 1) (listed' := #[true, true, false, false, false, false, false, false, false]) (HasObj g12 [.int .i64 o33.2.Id, .slice a46 n47 c48, .slice a50 n51 c52]) rfl (by kernel_rfl) (pk_then (pk_then pk_body)) (by kernel_rfl) rfl (by kernel_rfl) (by kernel_rfl) rfl (.inr ⟨rfl, fun _ _ h => h⟩) ⟨(hS143.hasK (KLe.refl _)), (fun _ => hS143.hasObj (.tail _ (.tail _ (.head _)))), by decide⟩ wn rfl (fun _ h => rh_loadm1 tf41 rfl rfl h) ?_
    refine wg_val (i := 2) (listed' := #[true, true, true, false, false, false, false, false, false]) (fun _ => True) rfl (by kernel_rfl) (pk_then (pk_then pk_body)) (by kernel_rfl) rfl (by kernel_rfl) (by kernel_rfl) rfl (.inl fun _ _ => trivial) ⟨(hS143.hasK (KLe.refl _)), (fun _ => hS143.hasObj (.tail _ (.tail _ (.head _)))), by decide⟩ wn rfl (fun _ _ => (rv_move rfl)) ?_
    refine wg_one (i := 3) (by kernel_rfl) rfl ?_
    obtain ⟨r144, hx145, h146⟩ := ob h141
    refine wl_call wn rfl (rt_call (vs := [.pointer (some ⟨g1, 0, none⟩)]) co178 rfl) ((ok_spec_l30Text F) (SH.enter (Lin := [_]) hS143) hs115 hr116 hx145) ?_
    rintro e156 w148 ⟨a151, n152, c153, K147, rfl, hS149, hl150, hs154, hr155⟩
    refine ⟨_, rfl, ?_⟩
    have hS157 : SH _ _ _ _ _ [_, _, _, _, _] := SH.call (Lin := [_]) hS143 hS149
    refine wl_nil (qe_held (listed' := #[true, true, true, true, false, false, false, false, false]) rfl ⟨(hS157.hasK hS149.le), (fun _ => hS157.hasObj (.tail _ (.tail _ (.head _)))), by decide⟩ ?_)
    refine wg_val (i := 4) (listed' := #[true, true, true, true, true, false, false, false, false]) (fun _ => True) rfl (by kernel_rfl) (pk_then (pk_then pk_body)) (by kernel_rfl) rfl (by kernel_rfl) (by kernel_rfl) rfl (.inl fun _ _ => trivial) ⟨(hS157.hasK hS149.le), (fun _ => hS157.hasObj (.tail _ (.tail _ (.head _)))), by decide⟩ wn rfl (fun _ _ => (rv_build (cs := #[sv [116, 105, 116, 108, 101], sv r144.1]) sp109 tf109 rfl (by kernel_rfl))) ?_
    refine wg_one (i := 5) (by kernel_rfl) rfl ?_
    refine wl_buildSlice (t := tGField) (n := 1) (pv := [(0, .agg #[sv [116, 105, 116, 108, 101], sv r144.1])]) (cs := [sv [116, 105, 116, 108, 101], sv r144.1]) (xs := [(GField.mk ([116, 105, 116, 108, 101] : Str) r144.1)]) wn rfl Tryz.underlying41 tf109 rfl rfl rfl (by kernel_rfl) rfl rfl (lit_cons (u := .agg #[sv [116, 105, 116, 108, 101], sv r144.1]) (z := (GField.mk ([116, 105, 116, 108, 101] : Str) r144.1)) ⟨rfl, (by decide : ([116, 105, 116, 108, 101] : Str).length ≤ maxLen), hl150⟩ lit_nil) hS157 ?_
    intro a158 w159 K160 hl161 hs162 hS163
    refine wl_nil (qe_held (listed' := #[true, true, true, true, true, true, false, false, false]) rfl ⟨(hS163.hasK (hS149.le.trans hl161)), (fun _ => hS163.hasObj (.tail _ (.tail _ (.tail _ (.head _))))), by decide⟩ ?_)
    refine wg_one (i := 6) (by kernel_rfl) rfl ?_
    have hS164 : SH _ _ _ _ _ [_, _, _, _, _, _] := SH.front (p := [_, _, _, _]) hS163
    obtain ⟨x165, hx166, h167⟩ := ob h146
    refine wl_append (t := tGField) wn rfl Tryz.underlying41 tf109 rfl rfl rfl rfl rfl (SliceAt.mono ((hS110.le.trans hS149.le).trans hl161) hs49) hs162 hx166 hS164 ?_
    intro a168 n169 c170 w171 K172 hl173 hs174 hS175
    refine wl_nil (qe_held (listed' := #[true, true, true, true, true, true, true, false, false]) rfl ⟨(hS175.hasK ((hS149.le.trans hl161).trans hl173)), (fun _ => hS175.hasObj (.tail _ (.tail _ (.tail _ (.tail _ (.head _)))))), by decide⟩ ?_)
    refine wg_val (i := 7) (listed' := #[true, true, true, true, true, true, true, true, false]) (fun _ => True) rfl (by kernel_rfl) (pk_then (pk_then pk_body)) (by kernel_rfl) rfl (by kernel_rfl) (by kernel_rfl) rfl (.inl fun _ _ => trivial) ⟨(hS175.hasK ((hS149.le.trans hl161).trans hl173)), (fun _ => hS175.hasObj (.tail _ (.tail _ (.tail _ (.tail _ (.head _)))))), by decide⟩ wn rfl (fun _ _ => (rv_fieldAddr ff44_1 rfl)) ?_
    refine wg_one (i := 8) (by kernel_rfl) rfl ?_
    have hS176 : SH _ _ _ _ _ [_, _, _, _, _, _] := SH.front (p := [_, _, _, _]) hS175
    refine wl_store (cs' := [.int .i64 o33.2.Id, .slice a168 n169 c170, .slice a50 n51 c52]) (v := .slice a168 n169 c170) wn tf41 rfl rfl rfl (by simp [Value.cells, Value.oneCell']) hS176 rfl rfl ?_
    intro w177 hS178
    refine wl_nil (qe_held (listed' := #[true, true, true, true, true, true, true, true, true]) rfl ⟨(hS178.hasK ((hS149.le.trans hl161).trans hl173)), (fun h => nomatch h), by decide⟩ ?_)
    refine wg_done (by kernel_rfl) ?_
    obtain rfl := oi h167
    have hS179 : SH _ _ _ _ _ [_, _, _, _, _, _] := SH.front (p := [_, _, _, _, _]) hS178
    have hS180 : SH _ _ _ _ _ [_, _, _, _, _, _] := SH.front (p := [_, _]) hS179
    have hS181 : SH _ _ _ _ _ [_, _, _, _, _, _] := SH.front (p := [_, _]) hS180
    have hS182 : SH _ _ _ _ _ [_, _, _, _, _, _] := SH.front (p := [_, _, _, _, _]) hS181
    have hS183 : SH _ _ _ _ _ [_, _, _, _, _, _] := SH.front (p := [_, _, _, _, _]) hS182
    have hS184 : SH _ _ _ _ _ [_, _, _, _, _] := SH.sublist hS183 (.cons_cons _ (.cons_cons _ (.cons_cons _ (.cons_cons _ (.cons_cons _ (.cons _ .slnil))))))
    exact qe_mid' ⟨a151, n152, c153, a168, n169, c170, a50, n51, c52, K172, rfl, hS184, ((hS149.le.trans hl161).trans hl173), (SliceAt.mono (hl161.trans hl173) hs154), hr155, hr45, hs174, (SliceAt.mono (((hS110.le.trans hS149.le).trans hl161).trans hl173) hs53)⟩ ⟨rfl, rfl, rfl, trivial⟩
   ·have h141 := cond_f hb140 h120
    refine wc_skip ?_
    obtain rfl := oi h141
    exact qe_mid' ⟨a112, n113, c114, a46, n47, c48, a50, n51, c52, K108, rfl, hS118, (KLe.refl _), hs115, hr116, hr45, (SliceAt.mono hS110.le hs49), (SliceAt.mono hS110.le hs53)⟩ ⟨rfl, rfl, rfl, trivial⟩
  ·rintro _ w124 ⟨a126, n127, c128, a132, n133, c134, a136, n137, c138, K122, rfl, hS125, hl123, hs129, hr130, hr131, hs135, hs139⟩
   refine qs ?_
   refine sr ?_
   refine vm rfl rfl ?_
   obtain ⟨r185, hx186, h187⟩ := ob h121
   refine wl_call wn rfl (rt_call (vs := [.pointer (some ⟨g1, 0, none⟩), .int .i64 3]) co95 rfl) ((ok_spec_l30Rd_pick F) (SH.enter (Lin := [_]) hS125) hs129 hr130 (by decide : rng64 3) hx186) ?_
   rintro e197 w189 ⟨a192, n193, c194, K188, rfl, hS190, hr191, hs195, hr196⟩
   refine ⟨_, rfl, ?_⟩
   have hS198 : SH _ _ _ _ _ [_, _, _, _, _] := SH.call (Lin := [_]) hS125 hS190
   refine wl_val wn rfl (rv_gtr rfl rfl) ?_
   refine nq ?_
   obtain ⟨o199, h200, h201⟩ := ob h187
   refine wc_cutg (fun E' w' => ∃ (a206 : Option Addr) (n207 c208 : Nat) (a212 : Option Addr) (n213 c214 : Nat) (a216 : Option Addr) (n217 c218 : Nat) (K202 : KMap), E' = [(0, .pointer (some ⟨g1, 0, none⟩)), (4, .pointer (some ⟨g8, 0, none⟩)), (5, .pointer (some ⟨g12, 0, none⟩))] ∧ SH w K (List.flatMap Item.gs [obj g1 [.slice a2 n3 c4, .int .i64 p0_r.p_] 141]) w' K202 [obj g1 [.slice a206 n207 c208, .int .i64 o199.1.p_] 141, obj g8 [.int .i64 0, .slice none 0 0, .slice none 0 0] 44, obj g12 [.int .i64 o199.2.Id, .slice a212 n213 c214, .slice a216 n217 c218] 44, tail (.slice a212 n213 c214) 109 2, tail (.slice a216 n217 c218) 152 2] ∧ KLe K188 K202 ∧ SliceAt tU8 K202 a206 n207 c208 o199.1.b_ ∧ rng64 o199.1.p_ ∧ rng64 o199.2.Id ∧ SliceAt tGField K202 a212 n213 c214 o199.2.Fields ∧ SliceAt tGAttr K202 a216 n217 c218 o199.2.Nums) ?_ ?_
   ·refine wc_cond rfl (fun hb220 => ?_) (fun hb220 => ?_)
    ·have h221 := cond_t hb220 h200
     refine wc_held (fun w' => Holds K188 w') (fun w' => HasObj g12 [.int .i64 o119.2.Id, .slice a132 n133 c134, .slice a136 n137 c138] w') 8 [(1, 6), (1, 7), (1, 8), (6, 7), (6, 8), (7, 8)] mixed ?_
     have hS223 := SH.drew hS198
     refine wg_val (i := 0) (listed' := #[true, false, false, false, false, false, false, false, false]) (fun _ => True) rfl (by kernel_rfl) (pk_then (pk_then pk_body)) (by kernel_rfl) rfl (by kernel_rfl) (by kernel_rfl) rfl (.inl fun _ _ => trivial) ⟨(hS223.hasK (KLe.refl _)), (fun _ => hS223.hasObj (.tail _ (.tail _ (.head _)))), by decide⟩ wn rfl (fun _ _ => (rv_fieldAddr ff44_2 rfl)) ?_
     refine wg_val (i := 1) (listed' := #[true, true, false, false, false, false, false, false, false]) (HasObj g12 [.int .i64 o119.2.Id, .slice a132 n133 c134, .slice a136 n137 c138]) rfl (by kernel_rfl) (pk_then (pk_then pk_body)) (by kernel_rfl) rfl (by kernel_rfl) (by kernel_rfl) rfl (.inr ⟨rfl, fun _ _ h => h⟩) ⟨(hS223.hasK (KLe.refl _)), (fun _ => hS223.hasObj (.tail _ (.tail _ (.head _)))), by decide⟩ wn rfl (fun _ h => rh_loadm1 tf42 rfl rfl h) ?_
     refine wg_val (i := 2) (listed' := #[true, true, true, false, false, false, false, false, false]) (fun _ => True) rfl (by kernel_rfl) (pk_then (pk_then pk_body)) (by kernel_rfl) rfl (by kernel_rfl) (by kernel_rfl) rfl (.inl fun _ _ => trivial) ⟨(hS223.hasK (KLe.refl _)), (fun _ => hS223.hasObj (.tail _ (.tail _ (.head _)))), by decide⟩ wn rfl (fun _ _ => (rv_move rfl)) ?_
     refine wg_one (i := 3) (by kernel_rfl) rfl ?_
     obtain ⟨r224, hx225, h226⟩ := ob h221
     refine wl_call wn rfl (rt_call (vs := [.pointer (some ⟨g1, 0, none⟩), .int .i64 4]) co95 rfl) ((ok_spec_l30Rd_pick F) (SH.enter (Lin := [_]) hS223) hs195 hr196 (by decide : rng64 4) hx225) ?_
     rintro e236 w228 ⟨a231, n232, c233, K227, rfl, hS229, hr230, hs234, hr235⟩
     refine ⟨_, rfl, ?_⟩
     have hS237 : SH _ _ _ _ _ [_, _, _, _, _] := SH.call (Lin := [_]) hS223 hS229
     refine wl_nil (qe_held (listed' := #[true, true, true, true, false, false, false, false, false]) rfl ⟨(hS237.hasK hS229.le), (fun _ => hS237.hasObj (.tail _ (.tail _ (.head _)))), by decide⟩ ?_)
     refine wg_val (i := 4) (listed' := #[true, true, true, true, true, false, false, false, false]) (fun _ => True) rfl (by kernel_rfl) (pk_then (pk_then pk_body)) (by kernel_rfl) rfl (by kernel_rfl) (by kernel_rfl) rfl (.inl fun _ _ => trivial) ⟨(hS237.hasK hS229.le), (fun _ => hS237.hasObj (.tail _ (.tail _ (.head _)))), by decide⟩ wn rfl (fun _ _ => (rv_build (cs := #[sv [114, 97, 116, 101], .int .i64 r224.1]) sp152 tf152 rfl (by kernel_rfl))) ?_
     refine wg_one (i := 5) (by kernel_rfl) rfl ?_
     refine wl_buildSlice (t := tGAttr) (n := 1) (pv := [(0, .agg #[sv [114, 97, 116, 101], .int .i64 r224.1])]) (cs := [sv [114, 97, 116, 101], .int .i64 r224.1]) (xs := [(GAttr.mk ([114, 97, 116, 101] : Str) r224.1)]) wn rfl Tryz.underlying42 tf152 rfl rfl rfl (by kernel_rfl) rfl rfl (lit_cons (u := .agg #[sv [114, 97, 116, 101], .int .i64 r224.1]) (z := (GAttr.mk ([114, 97, 116, 101] : Str) r224.1)) ⟨rfl, (by decide : ([114, 97, 116, 101] : Str).length ≤ maxLen), hr230⟩ lit_nil) hS237 ?_
     intro a238 w239 K240 hl241 hs242 hS243
     refine wl_nil (qe_held (listed' := #[true, true, true, true, true, true, false, false, false]) rfl ⟨(hS243.hasK (hS229.le.trans hl241)), (fun _ => hS243.hasObj (.tail _ (.tail _ (.tail _ (.head _))))), by decide⟩ ?_)
     refine wg_one (i := 6) (by kernel_rfl) rfl ?_
     have hS244 : SH _ _ _ _ _ [_, _, _, _, _, _] := SH.front (p := [_, _, _, _, _]) hS243
     obtain ⟨x245, hx246, h247⟩ := ob h226
     refine wl_append (t := tGAttr) wn rfl Tryz.underlying42 tf152 rfl rfl rfl rfl rfl (SliceAt.mono ((hS190.le.trans hS229.le).trans hl241) hs139) hs242 hx246 hS244 ?_
     intro a248 n249 c250 w251 K252 hl253 hs254 hS255
     refine wl_nil (qe_held (listed' := #[true, true, true, true, true, true, true, false, false]) rfl ⟨(hS255.hasK ((hS229.le.trans hl241).trans hl253)), (fun _ => hS255.hasObj (.tail _ (.tail _ (.tail _ (.tail _ (.head _)))))), by decide⟩ ?_)
     refine wg_val (i := 7) (listed' := #[true, true, true, true, true, true, true, true, false]) (fun _ => True) rfl (by kernel_rfl) (pk_then (pk_then pk_body)) (by kernel_rfl) rfl (by kernel_rfl) (by kernel_rfl) rfl (.inl fun _ _ => trivial) ⟨(hS255.hasK ((hS229.le.trans hl241).trans hl253)), (fun _ => hS255.hasObj (.tail _ (.tail _ (.tail _ (.tail _ (.head _)))))), by decide⟩ wn rfl (fun _ _ => (rv_fieldAddr ff44_2 rfl)) ?_
     refine wg_one (i := 8) (by kernel_rfl) rfl ?_
     have hS256 : SH _ _ _ _ _ [_, _, _, _, _, _] := SH.front (p := [_, _, _, _]) hS255
     refine wl_store (cs' := [.int .i64 o119.2.Id, .slice a132 n133 c134, .slice a248 n249 c250]) (v := .slice a248 n249 c250) wn tf42 rfl rfl rfl (by simp [Value.cells, Value.oneCell']) hS256 rfl rfl ?_
     intro w257 hS258
     refine wl_nil (qe_held (listed' := #[true, true, true, true, true, true, true, true, true]) rfl ⟨(hS258.hasK ((hS229.le.trans hl241).trans hl253)), (fun h => nomatch h), by decide⟩ ?_)
     refine wg_done (by kernel_rfl) ?_
     obtain rfl := oi h247
     have hS259 : SH _ _ _ _ _ [_, _, _, _, _, _] := SH.front (p := [_]) hS258
     have hS260 : SH _ _ _ _ _ [_, _, _, _, _, _] := SH.front (p := [_, _, _, _, _]) hS259
     have hS261 : SH _ _ _ _ _ [_, _, _, _, _, _] := SH.front (p := [_, _]) hS260
     have hS262 : SH _ _ _ _ _ [_, _, _, _, _, _] := SH.front (p := [_, _, _, _, _]) hS261
     have hS263 : SH _ _ _ _ _ [_, _, _, _, _, _] := SH.front (p := [_, _, _, _, _]) hS262
     have hS264 : SH _ _ _ _ _ [_, _, _, _, _] := SH.sublist hS263 (.cons_cons _ (.cons_cons _ (.cons_cons _ (.cons_cons _ (.cons_cons _ (.cons _ .slnil))))))
     exact qe_mid' ⟨a231, n232, c233, a132, n133, c134, a248, n249, c250, K252, rfl, hS264, ((hS229.le.trans hl241).trans hl253), (SliceAt.mono (hl241.trans hl253) hs234), hr235, hr131, (SliceAt.mono (((hS190.le.trans hS229.le).trans hl241).trans hl253) hs135), hs254⟩ ⟨rfl, rfl, rfl, trivial⟩
    ·have h221 := cond_f hb220 h200
     refine wc_skip ?_
     obtain rfl := oi h221
     exact qe_mid' ⟨a192, n193, c194, a132, n133, c134, a136, n137, c138, K188, rfl, hS198, (KLe.refl _), hs195, hr196, hr131, (SliceAt.mono hS190.le hs135), (SliceAt.mono hS190.le hs139)⟩ ⟨rfl, rfl, rfl, trivial⟩
   ·rintro _ w204 ⟨a206, n207, c208, a212, n213, c214, a216, n217, c218, K202, rfl, hS205, hl203, hs209, hr210, hr211, hs215, hs219⟩
    refine qs ?_
    refine sr ?_
    refine vm rfl rfl ?_
    obtain ⟨r265, hx266, h267⟩ := ob h201
    refine wl_call wn rfl (rt_call (vs := [.pointer (some ⟨g1, 0, none⟩), .int .i64 3]) co95 rfl) ((ok_spec_l30Rd_pick F) (SH.enter (Lin := [_]) hS205) hs209 hr210 (by decide : rng64 3) hx266) ?_
    rintro e277 w269 ⟨a272, n273, c274, K268, rfl, hS270, hr271, hs275, hr276⟩
    refine ⟨_, rfl, ?_⟩
    have hS278 : SH _ _ _ _ _ [_, _, _, _, _] := SH.call (Lin := [_]) hS205 hS270
    refine wl_val wn rfl (rv_eql rfl rfl) ?_
    refine nq ?_
    refine wc_cond rfl (fun hb279 => ?_) (fun hb279 => ?_)
    ·have h280 := cond_t hb279 h267
     refine wc_held (fun w' => Holds K268 w') (fun w' => HasObj g12 [.int .i64 o199.2.Id, .slice a212 n213 c214, .slice a216 n217 c218] w') 9 [(1, 7), (1, 8), (1, 9), (7, 8), (7, 9), (8, 9)] mixed ?_
     have hS282 := SH.drew hS278
     refine wg_val (i := 0) (listed' := #[true, false, false, false, false, false, false, false, false, false]) (fun _ => True) rfl (by kernel_rfl) (pk_then pk_body) (by kernel_rfl) rfl (by kernel_rfl) (by kernel_rfl) rfl (.inl fun _ _ => trivial) ⟨(hS282.hasK (KLe.refl _)), (fun _ => hS282.hasObj (.tail _ (.tail _ (.head _)))), by decide⟩ wn rfl (fun _ _ => (rv_fieldAddr ff44_2 rfl)) ?_
     refine wg_val (i := 1) (listed' := #[true, true, false, false, false, false, false, false, false, false]) (HasObj g12 [.int .i64 o199.2.Id, .slice a212 n213 c214, .slice a216 n217 c218]) rfl (by kernel_rfl) (pk_then pk_body) (by kernel_rfl) rfl (by kernel_rfl) (by kernel_rfl) rfl (.inr ⟨rfl, fun _ _ h => h⟩) ⟨(hS282.hasK (KLe.refl _)), (fun _ => hS282.hasObj (.tail _ (.tail _ (.head _)))), by decide⟩ wn rfl (fun _ h => rh_loadm1 tf42 rfl rfl h) ?_
     refine wg_val (i := 2) (listed' := #[true, true, true, false, false, false, false, false, false, false]) (fun _ => True) rfl (by kernel_rfl) (pk_then pk_body) (by kernel_rfl) rfl (by kernel_rfl) (by kernel_rfl) rfl (.inl fun _ _ => trivial) ⟨(hS282.hasK (KLe.refl _)), (fun _ => hS282.hasObj (.tail _ (.tail _ (.head _)))), by decide⟩ wn rfl (fun _ _ => (rv_move rfl)) ?_
     refine wg_one (i := 3) (by kernel_rfl) rfl ?_
     obtain ⟨r283, hx284, h285⟩ := ob h280
     refine wl_call wn rfl (rt_call (vs := [.pointer (some ⟨g1, 0, none⟩), .int .i64 30]) co95 rfl) ((ok_spec_l30Rd_pick F) (SH.enter (Lin := [_]) hS282) hs275 hr276 (by decide : rng64 30) hx284) ?_
     rintro e295 w287 ⟨a290, n291, c292, K286, rfl, hS288, hr289, hs293, hr294⟩
     refine ⟨_, rfl, ?_⟩
     have hS296 : SH _ _ _ _ _ [_, _, _, _, _] := SH.call (Lin := [_]) hS282 hS288
     refine wl_nil (qe_held (listed' := #[true, true, true, true, false, false, false, false, false, false]) rfl ⟨(hS296.hasK hS288.le), (fun _ => hS296.hasObj (.tail _ (.tail _ (.head _)))), by decide⟩ ?_)
     refine wg_val (i := 4) (listed' := #[true, true, true, true, true, false, false, false, false, false]) (fun _ => True) rfl (by kernel_rfl) (pk_then pk_body) (by kernel_rfl) rfl (by kernel_rfl) (by kernel_rfl) rfl (.inl fun _ _ => trivial) ⟨(hS296.hasK hS288.le), (fun _ => hS296.hasObj (.tail _ (.tail _ (.head _)))), by decide⟩ wn rfl (fun _ _ => (rv_add rfl rfl)) ?_
     refine wg_val (i := 5) (listed' := #[true, true, true, true, true, true, false, false, false, false]) (fun _ => True) rfl (by kernel_rfl) (pk_then pk_body) (by kernel_rfl) rfl (by kernel_rfl) (by kernel_rfl) rfl (.inl fun _ _ => trivial) ⟨(hS296.hasK hS288.le), (fun _ => hS296.hasObj (.tail _ (.tail _ (.head _)))), by decide⟩ wn rfl (fun _ _ => (rv_build (cs := #[sv [121, 101, 97, 114], .int .i64 (w64 ((2000 : Int) + r283.1))]) sp152 tf152 rfl (by kernel_rfl))) ?_
     refine wg_one (i := 6) (by kernel_rfl) rfl ?_
     refine wl_buildSlice (t := tGAttr) (n := 1) (pv := [(0, .agg #[sv [121, 101, 97, 114], .int .i64 (w64 ((2000 : Int) + r283.1))])]) (cs := [sv [121, 101, 97, 114], .int .i64 (w64 ((2000 : Int) + r283.1))]) (xs := [(GAttr.mk ([121, 101, 97, 114] : Str) (w64 ((2000 : Int) + r283.1)))]) wn rfl Tryz.underlying42 tf152 rfl rfl rfl (by kernel_rfl) rfl rfl (lit_cons (u := .agg #[sv [121, 101, 97, 114], .int .i64 (w64 ((2000 : Int) + r283.1))]) (z := (GAttr.mk ([121, 101, 97, 114] : Str) (w64 ((2000 : Int) + r283.1)))) ⟨rfl, (by decide : ([121, 101, 97, 114] : Str).length ≤ maxLen), (w64_rng _)⟩ lit_nil) hS296 ?_
     intro a297 w298 K299 hl300 hs301 hS302
     refine wl_nil (qe_held (listed' := #[true, true, true, true, true, true, true, false, false, false]) rfl ⟨(hS302.hasK (hS288.le.trans hl300)), (fun _ => hS302.hasObj (.tail _ (.tail _ (.tail _ (.head _))))), by decide⟩ ?_)
     refine wg_one (i := 7) (by kernel_rfl) rfl ?_
     have hS303 : SH _ _ _ _ _ [_, _, _, _, _, _] := SH.front (p := [_, _, _, _, _]) hS302
     obtain ⟨x304, hx305, h306⟩ := ob h285
     refine wl_append (t := tGAttr) wn rfl Tryz.underlying42 tf152 rfl rfl rfl rfl rfl (SliceAt.mono ((hS270.le.trans hS288.le).trans hl300) hs219) hs301 hx305 hS303 ?_
     intro a307 n308 c309 w310 K311 hl312 hs313 hS314
     refine wl_nil (qe_held (listed' := #[true, true, true, true, true, true, true, true, false, false]) rfl ⟨(hS314.hasK ((hS288.le.trans hl300).trans hl312)), (fun _ => hS314.hasObj (.tail _ (.tail _ (.tail _ (.tail _ (.head _)))))), by decide⟩ ?_)
     refine wg_val (i := 8) (listed' := #[true, true, true, true, true, true, true, true, true, false]) (fun _ => True) rfl (by kernel_rfl) (pk_then pk_body) (by kernel_rfl) rfl (by kernel_rfl) (by kernel_rfl) rfl (.inl fun _ _ => trivial) ⟨(hS314.hasK ((hS288.le.trans hl300).trans hl312)), (fun _ => hS314.hasObj (.tail _ (.tail _ (.tail _ (.tail _ (.head _)))))), by decide⟩ wn rfl (fun _ _ => (rv_fieldAddr ff44_2 rfl)) ?_
     refine wg_one (i := 9) (by kernel_rfl) rfl ?_
     have hS315 : SH _ _ _ _ _ [_, _, _, _, _, _] := SH.front (p := [_, _, _, _]) hS314
     refine wl_store (cs' := [.int .i64 o199.2.Id, .slice a212 n213 c214, .slice a307 n308 c309]) (v := .slice a307 n308 c309) wn tf42 rfl rfl rfl (by simp [Value.cells, Value.oneCell']) hS315 rfl rfl ?_
     intro w316 hS317
     refine wl_nil (qe_held (listed' := #[true, true, true, true, true, true, true, true, true, true]) rfl ⟨(hS317.hasK ((hS288.le.trans hl300).trans hl312)), (fun h => nomatch h), by decide⟩ ?_)
     refine wg_done (by kernel_rfl) ?_
     refine qr ?_
     refine wl_val wn rfl (rv_loadmS (ds := [.int .i64 o199.2.Id, .slice a212 n213 c214, .slice a307 n308 c309]) tf44 rfl (.head _) hS317 rfl rfl) ?_
     have hS318 : SH _ _ _ _ _ [_, _, _, _, _, _] := SH.front (p := [_, _, _, _]) hS317
     refine wl_store (cs' := [.int .i64 o199.2.Id, .slice a212 n213 c214, .slice a307 n308 c309]) (v := .agg #[.int .i64 o199.2.Id, .slice a212 n213 c214, .slice a307 n308 c309]) wn tf44 rfl rfl rfl (by simp [Value.cells, Value.oneCell']) hS318 rfl rfl ?_
     intro w319 hS320
     refine nq ?_
     refine wc_ret ?_
     obtain rfl := oi h306
     have hS321 : SH _ _ _ _ _ [_, _, _, _, _, _] := SH.front (p := [_, _, _, _]) hS320
     have hS322 : SH _ _ _ _ _ [_, _, _, _, _, _] := SH.front (p := [_, _, _]) hS321
     have hS323 : SH _ _ _ _ _ [_, _, _, _, _, _] := SH.front (p := [_, _, _, _, _]) hS322
     have hS324 : SH _ _ _ _ _ [_, _, _] := SH.sublist hS323 (.cons_cons _ (.cons_cons _ (.cons_cons _ (.cons _ (.cons _ (.cons _ .slnil))))))
     exact qe_ret (vs := [_]) Tryz.results167 ⟨⟨_, _, rfl, run_loadVar_at tf44 (cs := [.int .i64 o199.2.Id, .slice a212 n213 c214, .slice a307 n308 c309]) (fun j c e => by rw [Nat.zero_add, hS320.mem_obj (.head _)]; exact e) (.inl ⟨rfl, rfl, rfl⟩)⟩, trivial⟩ ⟨a212, n213, c214, a307, n308, c309, a290, n291, c292, K311, rfl, hS324, hr211, (SliceAt.mono (((hS270.le.trans hS288.le).trans hl300).trans hl312) hs215), hs313, (SliceAt.mono (hl300.trans hl312) hs293), hr294⟩
    ·have h280 := cond_f hb279 h267
     refine wc_skip ?_
     refine qr ?_
     refine wl_val wn rfl (rv_loadmS (ds := [.int .i64 o199.2.Id, .slice a212 n213 c214, .slice a216 n217 c218]) tf44 rfl (.tail _ (.tail _ (.head _))) hS278 rfl rfl) ?_
     have hS325 : SH _ _ _ _ _ [_, _, _, _, _] := SH.front (p := [_]) hS278
     refine wl_store (cs' := [.int .i64 o199.2.Id, .slice a212 n213 c214, .slice a216 n217 c218]) (v := .agg #[.int .i64 o199.2.Id, .slice a212 n213 c214, .slice a216 n217 c218]) wn tf44 rfl rfl rfl (by simp [Value.cells, Value.oneCell']) hS325 rfl rfl ?_
     intro w326 hS327
     refine nq ?_
     refine wc_ret ?_
     obtain rfl := oi h280
     have hS328 : SH _ _ _ _ _ [_, _, _, _, _] := SH.front (p := [_]) hS327
     have hS329 : SH _ _ _ _ _ [_, _, _, _, _] := SH.front (p := [_, _, _, _]) hS328
     have hS330 : SH _ _ _ _ _ [_, _, _, _, _] := SH.front (p := [_, _, _, _]) hS329
     have hS331 : SH _ _ _ _ _ [_, _, _] := SH.sublist hS330 (.cons_cons _ (.cons_cons _ (.cons_cons _ (.cons _ (.cons _ .slnil)))))
     exact qe_ret (vs := [_]) Tryz.results167 ⟨⟨_, _, rfl, run_loadVar_at tf44 (cs := [.int .i64 o199.2.Id, .slice a212 n213 c214, .slice a216 n217 c218]) (fun j c e => by rw [Nat.zero_add, hS327.mem_obj (.head _)]; exact e) (.inl ⟨rfl, rfl, rfl⟩)⟩, trivial⟩ ⟨a212, n213, c214, a216, n217, c218, a272, n273, c274, K268, rfl, hS331, hr211, (SliceAt.mono hS270.le hs215), (SliceAt.mono hS270.le hs219), hs275, hr276⟩

theorem ok_spec_l30Docs (F : Nat) {w : World} {K : KMap} {g1 : Nat} {a2 : Option Addr} {n3 c4 : Nat} {p0_r : GL30Rd} {r : (List GDoc) × GL30Rd} (hS : SH w K (List.flatMap Item.gs [obj g1 [.slice a2 n3 c4, .int .i64 p0_r.p_] 141]) w K [obj g1 [.slice a2 n3 c4, .int .i64 p0_r.p_] 141]) (hs5 : SliceAt tU8 K a2 n3 c4 p0_r.b_) (hr6 : rng64 p0_r.p_) (hm : M.spec_l30Docs F p0_r = some r) :
  Calls Tryz.prog 138 #[.pointer (some ⟨g1, 0, none⟩)] w fun e w' => ∃ (a_1 : Option Addr) (n_2 c_3 : Nat) (a_5 : Option Addr) (n_6 c_7 : Nat) (K' : KMap), e = .returned (.slice a_1 n_2 c_3) ∧ SH w K (List.flatMap Item.gs [obj g1 [.slice a2 n3 c4, .int .i64 p0_r.p_] 141]) w' K' [tail (.slice a_1 n_2 c_3) 44 3, obj g1 [.slice a_5 n_6 c_7, .int .i64 r.2.p_] 141] ∧ SliceAt tGDoc K' a_1 n_2 c_3 r.1 ∧ SliceAt tU8 K' a_5 n_6 c_7 r.2.b_ ∧ rng64 r.2.p_ := by
 rw [M.spec_l30Docs] at hm
 refine calls_in Tryz.func138 rfl Tryz.ntmps138 rfl ?_
 refine sr ?_
 refine wl_val wn rfl (rv_assign (v := .slice none 0 0) rfl) ?_
 refine nr ?_
 refine wl_buildSlice0 tGDoc wn rfl Tryz.underlying27 tf44 hS ?_
 intro a7 w8 K9 hl10 hs11 hS12
 refine va rfl rfl ?_
 refine nr ?_
 refine wl_val wn rfl (rv_assign (v := .int .i64 0) rfl) ?_
 refine nsr ?_
 refine vm rfl rfl ?_
 obtain ⟨r13, hx14, h15⟩ := ob hm
 have hS16 : SH _ _ _ _ _ [_, _] := SH.front (p := [_]) hS12
 refine wl_call wn rfl (rt_call (vs := [.pointer (some ⟨g1, 0, none⟩), .int .i64 6]) co95 rfl) ((ok_spec_l30Rd_pick F) (SH.enter (Lin := [_]) hS16) (SliceAt.mono hl10 hs5) hr6 (by decide : rng64 6) hx14) ?_
 rintro e26 w18 ⟨a21, n22, c23, K17, rfl, hS19, hr20, hs24, hr25⟩
 refine ⟨_, rfl, ?_⟩
 have hS27 : SH _ _ _ _ _ [_, _] := SH.call (Lin := [_]) hS16 hS19
 refine va rfl rfl ?_
 refine nq ?_
 obtain ⟨o28, h29, h30⟩ := ob h15
 refine wc_cutg (fun E' w' => ∃ (a35 : Option Addr) (n36 c37 : Nat) (a39 : Option Addr) (n40 c41 : Nat) (K31 : KMap), E' = [(0, .pointer (some ⟨g1, 0, none⟩)), (3, .slice a35 n36 c37)] ∧ SH w K (List.flatMap Item.gs [obj g1 [.slice a2 n3 c4, .int .i64 p0_r.p_] 141]) w' K31 [obj g1 [.slice a39 n40 c41, .int .i64 o28.2.p_] 141, tail (.slice a35 n36 c37) 44 3] ∧ KLe K17 K31 ∧ SliceAt tGDoc K31 a35 n36 c37 o28.1 ∧ SliceAt tU8 K31 a39 n40 c41 o28.2.b_ ∧ rng64 o28.2.p_) ?_ ?_
 ·refine wc_block ?_
  obtain ⟨r45, h46, h47⟩ := ob h29
  refine wc_while' (fun (s44 : (List GDoc) × Int × Int × GL30Rd) E' w' => ∃ (a52 : Option Addr) (n53 c54 : Nat) (a58 : Option Addr) (n59 c60 : Nat) (K48 : KMap), E' = [(0, .pointer (some ⟨g1, 0, none⟩)), (3, .slice a52 n53 c54), (4, .int .i64 s44.2.1), (5, .int .i64 s44.2.2.1)] ∧ SH w K (List.flatMap Item.gs [obj g1 [.slice a2 n3 c4, .int .i64 p0_r.p_] 141]) w' K48 [obj g1 [.slice a58 n59 c60, .int .i64 s44.2.2.2.p_] 141, tail (.slice a52 n53 c54) 44 3] ∧ KLe K17 K48 ∧ SliceAt tGDoc K48 a52 n53 c54 s44.1 ∧ rng64 s44.2.1 ∧ rng64 s44.2.2.1 ∧ SliceAt tU8 K48 a58 n59 c60 s44.2.2.2.b_ ∧ rng64 s44.2.2.2.p_) h46 ⟨a7, 0, 0, a21, n22, c23, K17, rfl, hS27, (KLe.refl _), (SliceAt.mono hS19.le hs11), (by decide : rng64 0), hr20, hs24, hr25⟩ ⟨rfl, rfl, rfl, rfl, trivial⟩ ?_
  rintro s44 _ w50 r63 h64 hx65 ⟨a52, n53, c54, a58, n59, c60, K48, rfl, hS51, hl49, hs55, hr56, hr57, hs61, hr62⟩
  refine wc_seq ?_
  refine sr ?_
  refine vm rfl rfl ?_
  refine wl_val wn rfl (rv_gtr rfl rfl) ?_
  refine nq ?_
  refine wc_cond rfl (fun hb66 => ?_) (fun hb66 => ?_)
  ·have h67 := cond_t hb66 h64
   refine wc_skip ?_
   refine qs ?_
   refine wc_block ?_
   refine sr ?_
   refine vm rfl rfl ?_
   refine wl_val wn rfl (rv_add rfl rfl) ?_
   refine vm rfl rfl ?_
   obtain ⟨r68, hx69, h70⟩ := ob h67
   refine wl_call wn rfl (rt_call (vs := [.pointer (some ⟨g1, 0, none⟩), .int .i64 3]) co95 rfl) ((ok_spec_l30Rd_pick F) (SH.enter (Lin := [_]) hS51) hs61 hr62 (by decide : rng64 3) hx69) ?_
   rintro e80 w72 ⟨a75, n76, c77, K71, rfl, hS73, hr74, hs78, hr79⟩
   refine ⟨_, rfl, ?_⟩
   have hS81 : SH _ _ _ _ _ [_, _] := SH.call (Lin := [_]) hS51 hS73
   refine wl_val wn rfl (rv_add rfl rfl) ?_
   refine va rfl rfl ?_
   refine nq ?_
   refine wc_region ?_
   refine vm rfl rfl ?_
   refine vm rfl rfl ?_
   refine vm rfl rfl ?_
   obtain ⟨r82, hx83, h84⟩ := ob h70
   refine wl_call wn rfl (rt_call (vs := [.pointer (some ⟨g1, 0, none⟩), .int .i64 (w64 ((w64 (s44.2.1 + (1 : Int))) + r68.1))]) co167 rfl) ((ok_spec_l30Doc F) (SH.enter (Lin := [_]) hS81) hs78 hr79 (w64_rng _) hx83) ?_
   rintro e102 w86 ⟨a89, n90, c91, a93, n94, c95, a97, n98, c99, K85, rfl, hS87, hr88, hs92, hs96, hs100, hr101⟩
   refine ⟨_, rfl, ?_⟩
   have hS103 : SH _ _ _ _ _ [_, _, _, _] := SH.call (Lin := [_]) hS81 hS87
   refine wl_buildSlice (t := tGDoc) (n := 1) (pv := [(0, .agg #[.int .i64 r82.1.Id, .slice a89 n90 c91, .slice a93 n94 c95])]) (cs := [.int .i64 r82.1.Id, .slice a89 n90 c91, .slice a93 n94 c95]) (xs := [r82.1]) wn rfl Tryz.underlying27 tf44 rfl rfl rfl (by kernel_rfl) rfl rfl (lit_cons (u := .agg #[.int .i64 r82.1.Id, .slice a89 n90 c91, .slice a93 n94 c95]) (z := r82.1) ⟨a89, n90, c91, a93, n94, c95, rfl, hr88, hs92, hs96⟩ lit_nil) hS103 ?_
   intro a104 w105 K106 hl107 hs108 hS109
   have hS110 : SH _ _ _ _ _ [_, _, _, _, _] := SH.front (p := [_, _, _, _]) hS109
   obtain ⟨x111, hx112, h113⟩ := ob h84
   refine wl_append (t := tGDoc) wn rfl Tryz.underlying27 tf44 rfl rfl rfl rfl rfl (SliceAt.mono ((hS73.le.trans hS87.le).trans hl107) hs55) hs108 hx112 hS110 ?_
   intro a114 n115 c116 w117 K118 hl119 hs120 hS121
   refine va rfl rfl ?_
   refine nb ?_
   refine qe_seq ?_
   refine wc_region ?_
   refine vm rfl rfl ?_
   refine wl_val wn rfl (rv_sub rfl rfl) ?_
   refine va rfl rfl ?_
   refine wl_nil ?_
   obtain rfl := oi h113
   have hS122 : SH _ _ _ _ _ [_, _, _, _, _] := SH.front (p := [_, _, _, _]) hS121
   have hS123 : SH _ _ _ _ _ [_, _] := SH.sublist hS122 (.cons_cons _ (.cons_cons _ (.cons _ (.cons _ (.cons _ .slnil)))))
   exact qe_mid' ⟨_, rfl, a114, n115, c116, a97, n98, c99, K118, rfl, hS123, ((((hl49.trans hS73.le).trans hS87.le).trans hl107).trans hl119), hs120, (w64_rng _), (w64_rng _), (SliceAt.mono (hl107.trans hl119) hs100), hr101⟩ ⟨rfl, rfl, rfl, rfl, trivial⟩
  ·have h67 := cond_f hb66 h64
   refine wc_exit ?_
   refine qe_then_exit ?_
   refine qe_then_exit ?_
   obtain rfl := oi h67
   have e124 := hx65 _ rfl
   subst e124
   refine qe_block_eq ?_
   obtain rfl := oi h47
   exact qe_mid' ⟨a52, n53, c54, a58, n59, c60, K48, rfl, hS51, hl49, hs55, hs61, hr62⟩ ⟨rfl, rfl, trivial⟩
 ·rintro _ w33 ⟨a35, n36, c37, a39, n40, c41, K31, rfl, hS34, hl32, hs38, hs42, hr43⟩
  refine qr ?_
  refine vm rfl rfl ?_
  refine va rfl rfl ?_
  refine nq ?_
  refine wc_ret ?_
  obtain rfl := oi h30
  have hS125 : SH _ _ _ _ _ [_, _] := SH.front (p := [_]) hS34
  exact qe_ret (vs := [_]) Tryz.results138 ⟨rfl, trivial⟩ ⟨a35, n36, c37, a39, n40, c41, K31, rfl, hS125, hs38, hs42, hr43⟩

theorem ok_spec_l30Seg (F : Nat) {w : World} {K : KMap} {g1 : Nat} {a2 : Option Addr} {n3 c4 : Nat} {p0_r : GL30Rd} {r : GConf × GSeg × GL30Rd} (hS : SH w K (List.flatMap Item.gs [obj g1 [.slice a2 n3 c4, .int .i64 p0_r.p_] 141]) w K [obj g1 [.slice a2 n3 c4, .int .i64 p0_r.p_] 141]) (hs5 : SliceAt tU8 K a2 n3 c4 p0_r.b_) (hr6 : rng64 p0_r.p_) (hm : M.spec_l30Seg F p0_r = some r) :
  Calls Tryz.prog 94 #[.pointer (some ⟨g1, 0, none⟩)] w fun e w' => ∃ (a_1 : Option Addr) (n_2 c_3 : Nat) (a_5 : Option Addr) (n_6 c_7 : Nat) (a_9 : Option Addr) (n_10 c_11 : Nat) (a_13 : Option Addr) (n_14 c_15 : Nat) (cs_16 : List Value) (a_19 : Option Addr) (n_20 c_21 : Nat) (K' : KMap), e = .returned (.tuple #[.agg #[.slice a_1 n_2 c_3, .slice a_5 n_6 c_7], .agg #[.slice a_9 n_10 c_11, .slice a_13 n_14 c_15]]) ∧ SH w K (List.flatMap Item.gs [obj g1 [.slice a2 n3 c4, .int .i64 p0_r.p_] 141]) w' K' [tail (.slice a_1 n_2 c_3) 9 1, tail (.slice a_5 n_6 c_7) 106 2, tail (.slice a_9 n_10 c_11) 44 3, rowI (.slice a_13 n_14 c_15) cs_16 94 3, obj g1 [.slice a_19 n_20 c_21, .int .i64 r.2.2.p_] 141] ∧ SliceAt tStr K' a_1 n_2 c_3 r.1.Stops ∧ SliceAt tGSyn K' a_5 n_6 c_7 r.1.Syns ∧ SliceAt tGDoc K' a_9 n_10 c_11 r.2.1.Docs ∧ RowAt true tGEntry K' cs_16 r.2.1.Entries ∧ n_14 = r.2.1.Entries.length ∧ SliceAt tU8 K' a_19 n_20 c_21 r.2.2.b_ ∧ rng64 r.2.2.p_ := by
 rw [M.spec_l30Seg] at hm
 refine calls_in Tryz.func94 rfl Tryz.ntmps94 rfl ?_
 refine sr ?_
 refine wl_alloc wn rfl tf26 hS ?_
 intro g7 w8 hS9
 have hS10 : SH _ _ _ _ _ [obj g7 [.slice none 0 0, .slice none 0 0] 26, _] := hS9
 refine wl_alloc wn rfl tf30 hS10 ?_
 intro g11 w12 hS13
 have hS14 : SH _ _ _ _ _ [obj g11 [.slice none 0 0, .slice none 0 0] 30, _, _] := hS13
 refine nr ?_
 refine vm rfl rfl ?_
 obtain ⟨r15, hx16, h17⟩ := ob hm
 have hS18 : SH _ _ _ _ _ [_, _, _] := SH.front (p := [_, _]) hS14
 refine wl_call wn rfl (rt_call (vs := [.pointer (some ⟨g1, 0, none⟩)]) co137 rfl) ((ok_spec_l30Conf F) (SH.enter (Lin := [_]) hS18) hs5 hr6 hx16) ?_
 rintro e35 w20 ⟨a22, n23, c24, a26, n27, c28, a30, n31, c32, K19, rfl, hS21, hs25, hs29, hs33, hr34⟩
 refine ⟨_, rfl, ?_⟩
 have hS36 : SH _ _ _ _ _ [_, _, _, _, _] := SH.call (Lin := [_]) hS18 hS21
 refine wl_alloc wn rfl tf26 hS36 ?_
 intro g37 w38 hS39
 have hS40 : SH _ _ _ _ _ [obj g37 [.slice none 0 0, .slice none 0 0] 26, _, _, _, _, _] := hS39
 refine wl_store (cs' := [.slice a22 n23 c24, .slice a26 n27 c28]) (v := .agg #[.slice a22 n23 c24, .slice a26 n27 c28]) wn tf26 rfl rfl rfl (by simp [Value.cells, Value.oneCell']) hS40 rfl rfl ?_
 intro w41 hS42
 refine ns ?_
 refine wc_held (fun w' => Holds K19 w' ∧ HasObj g37 [.slice a22 n23 c24, .slice a26 n27 c28] w') (fun w' => True) 7 [] mixed ?_
 have hS44 := SH.drew hS42
 refine wg_val (i := 0) (listed' := #[true, false, false, false, false, false, false]) (HasObj g37 [.slice a22 n23 c24, .slice a26 n27 c28]) rfl (by kernel_rfl) (pk_then pk_body) (by kernel_rfl) rfl (by kernel_rfl) (by kernel_rfl) rfl (.inl fun _ h => h.2) ⟨⟨hS44.hasK (KLe.refl _), hS44.hasObj (.head _)⟩, (fun _ => trivial), by decide⟩ wn rfl (fun _ h => rh_loadmS (ds := [.slice a22 n23 c24, .slice a26 n27 c28]) tf26 rfl rfl rfl h) ?_
 refine wg_val (i := 1) (listed' := #[true, true, false, false, false, false, false]) (HasObj g37 [.slice a22 n23 c24, .slice a26 n27 c28]) rfl (by kernel_rfl) (pk_then pk_body) (by kernel_rfl) rfl (by kernel_rfl) (by kernel_rfl) rfl (.inl fun _ h => h.2) ⟨⟨hS44.hasK (KLe.refl _), hS44.hasObj (.head _)⟩, (fun _ => trivial), by decide⟩ wn rfl (fun _ h => rh_loadmS (ds := [.slice a22 n23 c24, .slice a26 n27 c28]) tf26 rfl rfl rfl h) ?_
 refine wg_val (i := 2) (listed' := #[true, true, true, false, false, false, false]) (fun _ => True) rfl (by kernel_rfl) (pk_then pk_body) (by kernel_rfl) rfl (by kernel_rfl) (by kernel_rfl) rfl (.inl fun _ _ => trivial) ⟨⟨hS44.hasK (KLe.refl _), hS44.hasObj (.head _)⟩, (fun _ => trivial), by decide⟩ wn rfl (fun _ _ => (rv_move rfl)) ?_
 refine wg_one (i := 3) (by kernel_rfl) rfl ?_
 obtain ⟨r45, hx46, h47⟩ := ob h17
 have hS48 : SH _ _ _ _ _ [_, _, _, _, _, _] := SH.front (p := [_, _, _]) hS44
 refine wl_call wn rfl (rt_call (vs := [.pointer (some ⟨g1, 0, none⟩)]) co138 rfl) ((ok_spec_l30Docs F) (SH.enter (Lin := [_]) hS48) hs33 hr34 hx46) ?_
 rintro e61 w50 ⟨a52, n53, c54, a56, n57, c58, K49, rfl, hS51, hs55, hs59, hr60⟩
 refine ⟨_, rfl, ?_⟩
 have hS62 : SH _ _ _ _ _ [_, _, _, _, _, _, _] := SH.call (Lin := [_]) hS48 hS51
 refine wl_nil (qe_held (listed' := #[true, true, true, true, false, false, false]) rfl ⟨⟨hS62.hasK hS51.le, hS62.hasObj (.tail _ (.tail _ (.head _)))⟩, (fun _ => trivial), by decide⟩ ?_)
 refine wg_one (i := 4) (by kernel_rfl) rfl ?_
 obtain ⟨r63, hx64, h65⟩ := ob h47
 refine wl_call wn rfl (rt_call (vs := [.agg #[.slice a22 n23 c24, .slice a26 n27 c28], .slice a52 n53 c54]) co66 rfl) ((ok_spec_l7Of F) hS62.enter0 (SliceAt.mono hS51.le hs25) (SliceAt.mono hS51.le hs29) hs55 hx64) ?_
 rintro e79 w67 ⟨a69, n70, c71, a73, n74, c75, cs76, K66, rfl, hS68, hs72, hrow77, hm78⟩
 refine ⟨_, rfl, ?_⟩
 have hS80 : SH _ _ _ _ _ [_, _, _, _, _, _, _, _, _] := SH.call0 hS62 hS68
 refine wl_nil (qe_held (listed' := #[true, true, true, true, true, false, false]) rfl ⟨⟨hS80.hasK (hS51.le.trans hS68.le), hS80.hasObj (.tail _ (.tail _ (.tail _ (.tail _ (.head _)))))⟩, (fun _ => trivial), by decide⟩ ?_)
 refine wg_one (i := 5) (by kernel_rfl) rfl ?_
 have hS81 : SH _ _ _ _ _ [_, _, _, _, _, _, _, _, _] := SH.front (p := [_, _, _, _, _, _, _, _]) hS80
 refine wl_store (cs' := [.slice a22 n23 c24, .slice a26 n27 c28]) (v := .agg #[.slice a22 n23 c24, .slice a26 n27 c28]) wn tf26 rfl rfl rfl (by simp [Value.cells, Value.oneCell']) hS81 rfl rfl ?_
 intro w82 hS83
 refine wl_nil (qe_held (listed' := #[true, true, true, true, true, true, false]) rfl ⟨⟨hS83.hasK (hS51.le.trans hS68.le), hS83.hasObj (.tail _ (.tail _ (.tail _ (.tail _ (.tail _ (.head _))))))⟩, (fun _ => trivial), by decide⟩ ?_)
 refine wg_one (i := 6) (by kernel_rfl) rfl ?_
 have hS84 : SH _ _ _ _ _ [_, _, _, _, _, _, _, _, _] := SH.front (p := [_, _, _, _, _, _, _, _]) hS83
 refine wl_store (cs' := [.slice a69 n70 c71, .slice a73 n74 c75]) (v := .agg #[.slice a69 n70 c71, .slice a73 n74 c75]) wn tf30 rfl rfl rfl (by simp [Value.cells, Value.oneCell']) hS84 rfl rfl ?_
 intro w85 hS86
 refine wl_nil (qe_held (listed' := #[true, true, true, true, true, true, true]) rfl ⟨⟨hS86.hasK (hS51.le.trans hS68.le), hS86.hasObj (.tail _ (.tail _ (.tail _ (.tail _ (.tail _ (.tail _ (.head _)))))))⟩, (fun _ => trivial), by decide⟩ ?_)
 refine wg_done (by kernel_rfl) ?_
 refine qe_seq ?_
 refine wc_ret ?_
 obtain rfl := oi h65
 have hS87 : SH _ _ _ _ _ [_, _, _, _, _, _, _, _, _] := SH.front (p := [_, _, _, _, _]) hS86
 have hS88 : SH _ _ _ _ _ [_, _, _, _, _, _, _, _, _] := SH.front (p := [_, _, _, _]) hS87
 have hS89 : SH _ _ _ _ _ [_, _, _, _, _, _, _, _, _] := SH.front (p := [_, _, _, _]) hS88
 have hS90 : SH _ _ _ _ _ [_, _, _, _, _, _, _, _, _] := SH.front (p := [_, _, _, _, _, _, _, _]) hS89
 have hS91 : SH _ _ _ _ _ [_, _, _, _, _, _, _, _, _] := SH.front (p := [_, _, _, _, _, _, _, _]) hS90
 have hS92 : SH _ _ _ _ _ [_, _, _, _, _] := SH.sublist hS91 (.cons_cons _ (.cons_cons _ (.cons_cons _ (.cons_cons _ (.cons_cons _ (.cons _ (.cons _ (.cons _ (.cons _ .slnil)))))))))
 exact qe_ret (vs := [_, _]) Tryz.results94 ⟨⟨_, _, rfl, run_loadVar_at tf26 (cs := [.slice a22 n23 c24, .slice a26 n27 c28]) (fun j c e => by rw [Nat.zero_add, hS86.mem_obj (.tail _ (.head _))]; exact e) (.inl ⟨rfl, rfl, rfl⟩)⟩, ⟨_, _, rfl, run_loadVar_at tf30 (cs := [.slice a69 n70 c71, .slice a73 n74 c75]) (fun j c e => by rw [Nat.zero_add, hS86.mem_obj (.head _)]; exact e) (.inl ⟨rfl, rfl, rfl⟩)⟩, trivial⟩ ⟨a22, n23, c24, a26, n27, c28, a69, n70, c71, a73, n74, c75, cs76, a56, n57, c58, K66, rfl, hS92, (SliceAt.mono (hS51.le.trans hS68.le) hs25), (SliceAt.mono (hS51.le.trans hS68.le) hs29), hs72, hrow77, hm78, (SliceAt.mono hS68.le hs59), hr60⟩

set_option maxHeartbeats 2000000 in
theorem ok_spec_l30AnySeg (F : Nat) {w : World} {K : KMap} {g1 : Nat} {a2 : Option Addr} {n3 c4 : Nat} {p0_r : GL30Rd} {r : GConf × GSeg × GL30Rd} (hS : SH w K (List.flatMap Item.gs [obj g1 [.slice a2 n3 c4, .int .i64 p0_r.p_] 141]) w K [obj g1 [.slice a2 n3 c4, .int .i64 p0_r.p_] 141]) (hs5 : SliceAt tU8 K a2 n3 c4 p0_r.b_) (hr6 : rng64 p0_r.p_) (hm : M.spec_l30AnySeg F p0_r = some r) :
  Calls Tryz.prog 44 #[.pointer (some ⟨g1, 0, none⟩)] w fun e w' => ∃ (a_1 : Option Addr) (n_2 c_3 : Nat) (a_5 : Option Addr) (n_6 c_7 : Nat) (a_9 : Option Addr) (n_10 c_11 : Nat) (a_13 : Option Addr) (n_14 c_15 : Nat) (a_17 : Option Addr) (n_18 c_19 : Nat) (K' : KMap), e = .returned (.tuple #[.agg #[.slice a_1 n_2 c_3, .slice a_5 n_6 c_7], .agg #[.slice a_9 n_10 c_11, .slice a_13 n_14 c_15]]) ∧ SH w K (List.flatMap Item.gs [obj g1 [.slice a2 n3 c4, .int .i64 p0_r.p_] 141]) w' K' [tail (.slice a_1 n_2 c_3) 9 1, tail (.slice a_5 n_6 c_7) 106 2, tail (.slice a_13 n_14 c_15) 94 3, obj g1 [.slice a_17 n_18 c_19, .int .i64 r.2.2.p_] 141] ∧ SliceAt tStr K' a_1 n_2 c_3 r.1.Stops ∧ SliceAt tGSyn K' a_5 n_6 c_7 r.1.Syns ∧ SliceAt tGDoc K' a_9 n_10 c_11 r.2.1.Docs ∧ SliceAt tGEntry K' a_13 n_14 c_15 r.2.1.Entries ∧ SliceAt tU8 K' a_17 n_18 c_19 r.2.2.b_ ∧ rng64 r.2.2.p_ := by
 rw [M.spec_l30AnySeg] at hm
 refine calls_in Tryz.func44 rfl Tryz.ntmps44 rfl ?_
 refine sr ?_
 refine wl_alloc wn rfl tf26 hS ?_
 intro g7 w8 hS9
 have hS10 : SH _ _ _ _ _ [obj g7 [.slice none 0 0, .slice none 0 0] 26, _] := hS9
 refine wl_alloc wn rfl tf30 hS10 ?_
 intro g11 w12 hS13
 have hS14 : SH _ _ _ _ _ [obj g11 [.slice none 0 0, .slice none 0 0] 30, _, _] := hS13
 refine nr ?_
 refine vm rfl rfl ?_
 obtain ⟨r15, hx16, h17⟩ := ob hm
 have hS18 : SH _ _ _ _ _ [_, _, _] := SH.front (p := [_, _]) hS14
 refine wl_call wn rfl (rt_call (vs := [.pointer (some ⟨g1, 0, none⟩)]) co94 rfl) ((ok_spec_l30Seg F) (SH.enter (Lin := [_]) hS18) hs5 hr6 hx16) ?_
 rintro e45 w20 ⟨a22, n23, c24, a26, n27, c28, a30, n31, c32, a34, n35, c36, cs37, a40, n41, c42, K19, rfl, hS21, hs25, hs29, hs33, hrow38, hm39, hs43, hr44⟩
 refine ⟨_, rfl, ?_⟩
 have hS46 : SH _ _ _ _ _ [_, _, _, _, _, _, _] := SH.call (Lin := [_]) hS18 hS21
 refine vm rfl rfl ?_
 refine wl_val wn rfl (rv_extract rfl rfl) ?_
 refine wl_val wn rfl (rv_extract rfl rfl) ?_
 refine wl_alloc wn rfl tf26 hS46 ?_
 intro g47 w48 hS49
 have hS50 : SH _ _ _ _ _ [obj g47 [.slice none 0 0, .slice none 0 0] 26, _, _, _, _, _, _, _] := hS49
 refine wl_alloc wn rfl tf30 hS50 ?_
 intro g51 w52 hS53
 have hS54 : SH _ _ _ _ _ [obj g51 [.slice none 0 0, .slice none 0 0] 30, _, _, _, _, _, _, _, _] := hS53
 have hS55 : SH _ _ _ _ _ [_, _, _, _, _, _, _, _, _] := SH.front (p := [_]) hS54
 refine wl_store (cs' := [.slice a22 n23 c24, .slice a26 n27 c28]) (v := .agg #[.slice a22 n23 c24, .slice a26 n27 c28]) wn tf26 rfl rfl rfl (by simp [Value.cells, Value.oneCell']) hS55 rfl rfl ?_
 intro w56 hS57
 have hS58 : SH _ _ _ _ _ [_, _, _, _, _, _, _, _, _] := SH.front (p := [_]) hS57
 refine wl_store (cs' := [.slice a30 n31 c32, .slice a34 n35 c36]) (v := .agg #[.slice a30 n31 c32, .slice a34 n35 c36]) wn tf30 rfl rfl rfl (by simp [Value.cells, Value.oneCell']) hS58 rfl rfl ?_
 intro w59 hS60
 refine nsr ?_
 refine wl_val wn rfl (rv_fieldAddr ff30_1 rfl) ?_
 refine wl_val wn rfl (rv_loadm1 tf28 rfl (.head _) hS60 rfl) ?_
 refine wl_val wn rfl (rv_lenRow Tryz.underlying28 rfl hm39) ?_
 refine wl_val wn rfl (rv_gtr rfl rfl) ?_
 refine nq ?_
 refine wc_cond rfl (fun hb61 => ?_) (fun hb61 => ?_)
 ·have h62 := cond_t hb61 h17
  refine sr ?_
  refine vm rfl rfl ?_
  refine wl_val wn rfl (rv_fieldAddr ff30_1 rfl) ?_
  refine wl_val wn rfl (rv_loadm1 tf28 rfl (.head _) hS60 rfl) ?_
  refine wl_val wn rfl (rv_lenRow Tryz.underlying28 rfl hm39) ?_
  obtain ⟨r63, hx64, h65⟩ := ob h62
  have hS66 : SH _ _ _ _ _ [_, _, _, _, _, _, _, _, _] := SH.front (p := [_, _, _, _, _, _]) hS60
  refine wl_call wn rfl (rt_call (vs := [.pointer (some ⟨g1, 0, none⟩), .int .i64 (r15.2.1.Entries.length : Int)]) co95 rfl) ((ok_spec_l30Rd_pick F) (SH.enter (Lin := [_]) hS66) hs43 hr44 (rng_nat (rowI_max hS60 (.tail _ (.tail _ (.tail _ (.tail _ (.tail _ (.head _)))))) hm39)) hx64) ?_
  rintro e76 w68 ⟨a71, n72, c73, K67, rfl, hS69, hr70, hs74, hr75⟩
  refine ⟨_, rfl, ?_⟩
  have hS77 : SH _ _ _ _ _ [_, _, _, _, _, _, _, _, _] := SH.call (Lin := [_]) hS66 hS69
  refine va rfl rfl ?_
  refine nr ?_
  refine vm rfl rfl ?_
  obtain ⟨r78, hx79, h80⟩ := ob h65
  refine wl_call wn rfl (rt_call (vs := [.pointer (some ⟨g1, 0, none⟩), .int .i64 16]) co95 rfl) ((ok_spec_l30Rd_pick F) (SH.enter (Lin := [_]) hS77) hs74 hr75 (by decide : rng64 16) hx79) ?_
  rintro e90 w82 ⟨a85, n86, c87, K81, rfl, hS83, hr84, hs88, hr89⟩
  refine ⟨_, rfl, ?_⟩
  have hS91 : SH _ _ _ _ _ [_, _, _, _, _, _, _, _, _] := SH.call (Lin := [_]) hS77 hS83
  refine nq ?_
  refine wc_block ?_
  refine sr ?_
  refine wl_val wn rfl (rv_eql rfl rfl) ?_
  refine va rfl rfl ?_
  refine nq ?_
  refine wc_cond rfl (fun hb92 => ?_) (fun hb92 => ?_)
  ·have h93 := cond_t hb92 h80
   refine wc_region ?_
   refine wl_val wn rfl (rv_fieldAddr ff30_1 rfl) ?_
   refine wl_val wn rfl (rv_loadm1 tf28 rfl (.tail _ (.head _)) hS91 rfl) ?_
   refine vm rfl rfl ?_
   obtain ⟨x94, hx95, h96⟩ := ob h93
   obtain ⟨g97, ha98⟩ := SH.rowI_at hS91 (.tail _ (.tail _ (.tail _ (.tail _ (.tail _ (.tail _ (.head _))))))) hm39 hx95
   obtain ⟨u99, hu100, hk101⟩ := RowAt.at (RowAt.mono (hS69.le.trans hS83.le) hrow38) hx95
   obtain ⟨a105, n106, c107, rfl, hl103, hl104, hs108⟩ := hu100
   have hk102 : ∀ (j : Nat) (d : Value), [sv x94.Field, sv x94.Term, .slice a105 n106 c107][j]? = some d → cs37[r63.1.toNat * tGEntry.size + j]? = some d := hk101
   refine wl_val wn rfl (rv_indexI (t := tGEntry) Tryz.underlying28 tf94 rfl rfl ha98 hm39 hx95) ?_
   refine wl_val wn rfl (rv_fieldAddr ff94_1 rfl) ?_
   have hS109 : SH _ _ _ _ _ [_, _, _, _, _, _, _, _, _] := SH.front (p := [_, _, _, _, _, _]) hS91
   refine wl_storeI (t := tGEntry) (off := 1) (ds := [sv x94.Field, sv x94.Term, .slice a105 n106 c107]) (v := sv [122, 122, 122]) (u := .agg #[sv x94.Field, sv [122, 122, 122], .slice a105 n106 c107]) (e := (GEntry.mk x94.Field ([122, 122, 122] : Str) x94.Posts)) wn tf9 rfl rfl rfl rfl (by simp [Value.cells, Value.oneCell', sv]) ha98 hS109 (RowAt.mono (hS69.le.trans hS83.le) hrow38) hm39 hx95 hk102 rfl rfl ⟨a105, n106, c107, rfl, hl103, (by decide : ([122, 122, 122] : Str).length ≤ maxLen), hs108⟩ ?_
   intro cs110 w111 hrow112 hm113 hS114
   have hx115 := getI_set (e := (GEntry.mk x94.Field ([122, 122, 122] : Str) x94.Posts)) hx95
   obtain ⟨u116, hu117, hk118⟩ := RowAt.at hrow112 hx115
   obtain ⟨a122, n123, c124, rfl, hl120, hl121, hs125⟩ := hu117
   have hk119 : ∀ (j : Nat) (d : Value), [sv ((GEntry.mk x94.Field ([122, 122, 122] : Str) x94.Posts).Field), sv ((GEntry.mk x94.Field ([122, 122, 122] : Str) x94.Posts).Term), .slice a122 n123 c124][j]? = some d → cs110[r63.1.toNat * tGEntry.size + j]? = some d := hk118
   refine nb ?_
   refine qs ?_
   refine wc_held (fun w' => Holds K81 w' ∧ HasObj g47 [.slice a22 n23 c24, .slice a26 n27 c28] w' ∧ HasObj g51 [.slice a30 n31 c32, .slice a34 n35 c36] w') (fun w' => True) 4 [] mixed ?_
   have hS127 := SH.drew hS114
   refine wg_val (i := 0) (listed' := #[true, false, false, false]) (HasObj g47 [.slice a22 n23 c24, .slice a26 n27 c28]) rfl (by kernel_rfl) (pk_then pk_body) (by kernel_rfl) rfl (by kernel_rfl) (by kernel_rfl) rfl (.inl fun _ h => h.2.1) ⟨⟨hS127.hasK (KLe.refl _), hS127.hasObj (.tail _ (.tail _ (.tail _ (.head _)))), hS127.hasObj (.tail _ (.tail _ (.head _)))⟩, (fun _ => trivial), by decide⟩ wn rfl (fun _ h => rh_loadmS (ds := [.slice a22 n23 c24, .slice a26 n27 c28]) tf26 rfl rfl rfl h) ?_
   refine wg_val (i := 1) (listed' := #[true, true, false, false]) (HasObj g51 [.slice a30 n31 c32, .slice a34 n35 c36]) rfl (by kernel_rfl) (pk_then pk_body) (by kernel_rfl) rfl (by kernel_rfl) (by kernel_rfl) rfl (.inl fun _ h => h.2.2) ⟨⟨hS127.hasK (KLe.refl _), hS127.hasObj (.tail _ (.tail _ (.tail _ (.head _)))), hS127.hasObj (.tail _ (.tail _ (.head _)))⟩, (fun _ => trivial), by decide⟩ wn rfl (fun _ h => rh_loadmS (ds := [.slice a30 n31 c32, .slice a34 n35 c36]) tf30 rfl rfl rfl h) ?_
   refine wg_one (i := 2) (by kernel_rfl) rfl ?_
   have hS128 : SH _ _ _ _ _ [_, _, _, _, _, _, _, _, _] := SH.front (p := [_, _, _, _, _, _, _, _]) hS127
   refine wl_store (cs' := [.slice a22 n23 c24, .slice a26 n27 c28]) (v := .agg #[.slice a22 n23 c24, .slice a26 n27 c28]) wn tf26 rfl rfl rfl (by simp [Value.cells, Value.oneCell']) hS128 rfl rfl ?_
   intro w129 hS130
   refine wl_nil (qe_held (listed' := #[true, true, true, false]) rfl ⟨⟨hS130.hasK (KLe.refl _), hS130.hasObj (.tail _ (.tail _ (.tail _ (.tail _ (.head _))))), hS130.hasObj (.tail _ (.tail _ (.tail _ (.head _))))⟩, (fun _ => trivial), by decide⟩ ?_)
   refine wg_one (i := 3) (by kernel_rfl) rfl ?_
   have hS131 : SH _ _ _ _ _ [_, _, _, _, _, _, _, _, _] := SH.front (p := [_, _, _, _, _, _, _, _]) hS130
   refine wl_store (cs' := [.slice a30 n31 c32, .slice a34 n35 c36]) (v := .agg #[.slice a30 n31 c32, .slice a34 n35 c36]) wn tf30 rfl rfl rfl (by simp [Value.cells, Value.oneCell']) hS131 rfl rfl ?_
   intro w132 hS133
   refine wl_nil (qe_held (listed' := #[true, true, true, true]) rfl ⟨⟨hS133.hasK (KLe.refl _), hS133.hasObj (.tail _ (.tail _ (.tail _ (.tail _ (.tail _ (.head _)))))), hS133.hasObj (.tail _ (.tail _ (.tail _ (.tail _ (.head _)))))⟩, (fun _ => trivial), by decide⟩ ?_)
   refine wg_done (by kernel_rfl) ?_
   refine qe_seq ?_
   refine wc_ret ?_
   have hS134 : SH _ _ _ _ _ [_, _, _, _, _, _, _, _, _] := SH.front (p := [_, _]) hS133
   obtain ⟨K135, hl136, hs137, hS138⟩ := SH.freezeI hS134 hrow112 hm113
   obtain rfl := oi h96
   have hS139 : SH _ _ _ _ _ [_, _, _, _, _, _, _, _, _] := SH.front (p := [_, _, _]) hS138
   have hS140 : SH _ _ _ _ _ [_, _, _, _, _, _, _, _, _] := SH.front (p := [_]) hS139
   have hS141 : SH _ _ _ _ _ [_, _, _, _, _, _, _, _, _] := SH.front (p := [_, _, _, _, _, _, _]) hS140
   have hS142 : SH _ _ _ _ _ [_, _, _, _, _, _, _, _, _] := SH.front (p := [_, _, _, _, _, _, _]) hS141
   have hS143 : SH _ _ _ _ _ [_, _, _, _] := SH.sublist hS142 (.cons_cons _ (.cons_cons _ (.cons_cons _ (.cons_cons _ (.cons _ (.cons _ (.cons _ (.cons _ (.cons _ .slnil)))))))))
   exact qe_ret (vs := [_, _]) Tryz.results44 ⟨⟨_, _, rfl, run_loadVar_at tf26 (cs := [.slice a22 n23 c24, .slice a26 n27 c28]) (fun j c e => by rw [Nat.zero_add, hS138.mem_obj (.tail _ (.tail _ (.head _)))]; exact e) (.inl ⟨rfl, rfl, rfl⟩)⟩, ⟨_, _, rfl, run_loadVar_at tf30 (cs := [.slice a30 n31 c32, .slice a34 n35 c36]) (fun j c e => by rw [Nat.zero_add, hS138.mem_obj (.tail _ (.head _))]; exact e) (.inl ⟨rfl, rfl, rfl⟩)⟩, trivial⟩ ⟨a22, n23, c24, a26, n27, c28, a30, n31, c32, a34, n35, c36, a85, n86, c87, K135, rfl, hS143, (SliceAt.mono ((hS69.le.trans hS83.le).trans hl136) hs25), (SliceAt.mono ((hS69.le.trans hS83.le).trans hl136) hs29), (SliceAt.mono ((hS69.le.trans hS83.le).trans hl136) hs33), hs137, (SliceAt.mono hl136 hs88), hr89⟩
  ·have h93 := cond_f hb92 h80
   refine sr ?_
   refine wl_val wn rfl (rv_eql rfl rfl) ?_
   refine va rfl rfl ?_
   refine nq ?_
   refine wc_cond rfl (fun hb144 => ?_) (fun hb144 => ?_)
   ·have h145 := cond_t hb144 h93
    refine wc_held (fun w' => Holds K81 w') (fun w' => HasObj g51 [.slice a30 n31 c32, .slice a34 n35 c36] w' ∧ HasRow a34 cs37 w') 8 [(1, 8), (3, 5), (5, 6), (6, 7), (7, 8)] mixed ?_
    have hS147 := SH.drew hS91
    refine wg_val (i := 0) (listed' := #[true, false, false, false, false, false, false, false, false, false, false]) (fun _ => True) rfl (by kernel_rfl) (pk_block (pk_then pk_body)) (by kernel_rfl) rfl (by kernel_rfl) (by kernel_rfl) rfl (.inl fun _ _ => trivial) ⟨(hS147.hasK (KLe.refl _)), (fun _ => ⟨hS147.hasObj (.tail _ (.head _)), hS147.hasRow (.tail _ (.tail _ (.tail _ (.tail _ (.tail _ (.tail _ (.head _)))))))⟩), by decide⟩ wn rfl (fun _ _ => (rv_fieldAddr ff30_1 rfl)) ?_
    refine wg_val (i := 1) (listed' := #[true, true, false, false, false, false, false, false, false, false, false]) (HasObj g51 [.slice a30 n31 c32, .slice a34 n35 c36]) rfl (by kernel_rfl) (pk_block (pk_then pk_body)) (by kernel_rfl) rfl (by kernel_rfl) (by kernel_rfl) rfl (.inr ⟨rfl, fun _ _ h => h.1⟩) ⟨(hS147.hasK (KLe.refl _)), (fun _ => ⟨hS147.hasObj (.tail _ (.head _)), hS147.hasRow (.tail _ (.tail _ (.tail _ (.tail _ (.tail _ (.tail _ (.head _)))))))⟩), by decide⟩ wn rfl (fun _ h => rh_loadm1 tf28 rfl rfl h) ?_
    refine wg_val (i := 2) (listed' := #[true, true, true, false, false, false, false, false, false, false, false]) (fun _ => True) rfl (by kernel_rfl) (pk_block (pk_then pk_body)) (by kernel_rfl) rfl (by kernel_rfl) (by kernel_rfl) rfl (.inl fun _ _ => trivial) ⟨(hS147.hasK (KLe.refl _)), (fun _ => ⟨hS147.hasObj (.tail _ (.head _)), hS147.hasRow (.tail _ (.tail _ (.tail _ (.tail _ (.tail _ (.tail _ (.head _)))))))⟩), by decide⟩ wn rfl (fun _ _ => (rv_fieldAddr ff30_1 rfl)) ?_
    refine wg_val (i := 3) (listed' := #[true, true, true, true, false, false, false, false, false, false, false]) (HasObj g51 [.slice a30 n31 c32, .slice a34 n35 c36]) rfl (by kernel_rfl) (pk_block (pk_then pk_body)) (by kernel_rfl) rfl (by kernel_rfl) (by kernel_rfl) rfl (.inr ⟨rfl, fun _ _ h => h.1⟩) ⟨(hS147.hasK (KLe.refl _)), (fun _ => ⟨hS147.hasObj (.tail _ (.head _)), hS147.hasRow (.tail _ (.tail _ (.tail _ (.tail _ (.tail _ (.tail _ (.head _)))))))⟩), by decide⟩ wn rfl (fun _ h => rh_loadm1 tf28 rfl rfl h) ?_
    refine wg_val (i := 4) (listed' := #[true, true, true, true, true, false, false, false, false, false, false]) (fun _ => True) rfl (by kernel_rfl) (pk_block (pk_then pk_body)) (by kernel_rfl) rfl (by kernel_rfl) (by kernel_rfl) rfl (.inl fun _ _ => trivial) ⟨(hS147.hasK (KLe.refl _)), (fun _ => ⟨hS147.hasObj (.tail _ (.head _)), hS147.hasRow (.tail _ (.tail _ (.tail _ (.tail _ (.tail _ (.tail _ (.head _)))))))⟩), by decide⟩ wn rfl (fun _ _ => (rv_move rfl)) ?_
    obtain ⟨x148, hx149, h150⟩ := ob h145
    obtain ⟨g151, ha152⟩ := SH.rowI_at hS147 (.tail _ (.tail _ (.tail _ (.tail _ (.tail _ (.tail _ (.head _))))))) hm39 hx149
    obtain ⟨u153, hu154, hk155⟩ := RowAt.at (RowAt.mono (hS69.le.trans hS83.le) hrow38) hx149
    obtain ⟨a159, n160, c161, rfl, hl157, hl158, hs162⟩ := hu154
    have hk156 : ∀ (j : Nat) (d : Value), [sv x148.Field, sv x148.Term, .slice a159 n160 c161][j]? = some d → cs37[r63.1.toNat * tGEntry.size + j]? = some d := hk155
    refine wg_val (i := 5) (listed' := #[true, true, true, true, true, true, false, false, false, false, false]) (fun _ => True) rfl (by kernel_rfl) (pk_block (pk_then pk_body)) (by kernel_rfl) rfl (by kernel_rfl) (by kernel_rfl) rfl (.inl fun _ _ => trivial) ⟨(hS147.hasK (KLe.refl _)), (fun _ => ⟨hS147.hasObj (.tail _ (.head _)), hS147.hasRow (.tail _ (.tail _ (.tail _ (.tail _ (.tail _ (.tail _ (.head _)))))))⟩), by decide⟩ wn rfl (fun _ _ => (rv_indexI (t := tGEntry) Tryz.underlying28 tf94 rfl rfl ha152 hm39 hx149)) ?_
    refine wg_val (i := 6) (listed' := #[true, true, true, true, true, true, true, false, false, false, false]) (HasRow a34 cs37) rfl (by kernel_rfl) (pk_block (pk_then pk_body)) (by kernel_rfl) rfl (by kernel_rfl) (by kernel_rfl) rfl (.inr ⟨rfl, fun _ _ h => h.2⟩) ⟨(hS147.hasK (KLe.refl _)), (fun _ => ⟨hS147.hasObj (.tail _ (.head _)), hS147.hasRow (.tail _ (.tail _ (.tail _ (.tail _ (.tail _ (.tail _ (.head _)))))))⟩), by decide⟩ wn rfl (fun _ h => (rh_loadIS (ds := [sv x148.Field, sv x148.Term, .slice a159 n160 c161]) tf94 rfl hk156 rfl ha152 h)) ?_
    refine wg_one (i := 7) (by kernel_rfl) rfl ?_
    refine wl_buildSlice (t := tGEntry) (n := 1) (pv := [(0, .agg #[sv x148.Field, sv x148.Term, .slice a159 n160 c161])]) (cs := [sv x148.Field, sv x148.Term, .slice a159 n160 c161]) (xs := [x148]) wn rfl Tryz.underlying28 tf94 rfl rfl rfl (by kernel_rfl) rfl rfl (lit_cons (u := .agg #[sv x148.Field, sv x148.Term, .slice a159 n160 c161]) (z := x148) ⟨a159, n160, c161, rfl, hl157, hl158, hs162⟩ lit_nil) hS147 ?_
    intro a163 w164 K165 hl166 hs167 hS168
    refine wl_nil (qe_held (listed' := #[true, true, true, true, true, true, true, true, false, false, false]) rfl ⟨(hS168.hasK hl166), (fun _ => ⟨hS168.hasObj (.tail _ (.tail _ (.head _))), hS168.hasRow (.tail _ (.tail _ (.tail _ (.tail _ (.tail _ (.tail _ (.tail _ (.head _))))))))⟩), by decide⟩ ?_)
    refine wg_one (i := 8) (by kernel_rfl) rfl ?_
    have hS169 : SH _ _ _ _ _ [_, _, _, _, _, _, _, _, _, _] := SH.front (p := [_, _, _, _, _, _, _]) hS168
    obtain ⟨x170, hx171, h172⟩ := ob h150
    refine wl_appendR (t := tGEntry) wn rfl Tryz.underlying28 tf94 rfl rfl rfl rfl (RowAt.mono ((hS69.le.trans hS83.le).trans hl166) hrow38) hm39 hs167 hx171 hS169 ?_
    intro a173 n174 c175 cs176 w177 hrow178 hm179 hS180
    refine wl_nil (qe_held (listed' := #[true, true, true, true, true, true, true, true, true, false, false]) rfl ⟨(hS180.hasK hl166), (fun h => nomatch h), by decide⟩ ?_)
    refine wg_val (i := 9) (listed' := #[true, true, true, true, true, true, true, true, true, true, false]) (fun _ => True) rfl (by kernel_rfl) (pk_block (pk_then pk_body)) (by kernel_rfl) rfl (by kernel_rfl) (by kernel_rfl) rfl (.inl fun _ _ => trivial) ⟨(hS180.hasK hl166), (fun h => nomatch h), by decide⟩ wn rfl (fun _ _ => (rv_fieldAddr ff30_1 rfl)) ?_
    refine wg_one (i := 10) (by kernel_rfl) rfl ?_
    have hS181 : SH _ _ _ _ _ [_, _, _, _, _, _, _, _, _, _] := SH.front (p := [_, _, _]) hS180
    refine wl_store (cs' := [.slice a30 n31 c32, .slice a173 n174 c175]) (v := .slice a173 n174 c175) wn tf28 rfl rfl rfl (by simp [Value.cells, Value.oneCell']) hS181 rfl rfl ?_
    intro w182 hS183
    refine wl_nil (qe_held (listed' := #[true, true, true, true, true, true, true, true, true, true, true]) rfl ⟨(hS183.hasK hl166), (fun h => nomatch h), by decide⟩ ?_)
    refine wg_done (by kernel_rfl) ?_
    refine qe_block ?_
    refine qs ?_
    refine wc_held (fun w' => Holds K165 w' ∧ HasObj g47 [.slice a22 n23 c24, .slice a26 n27 c28] w' ∧ HasObj g51 [.slice a30 n31 c32, .slice a173 n174 c175] w') (fun w' => True) 4 [] mixed ?_
    have hS185 := SH.drew hS183
    refine wg_val (i := 0) (listed' := #[true, false, false, false]) (HasObj g47 [.slice a22 n23 c24, .slice a26 n27 c28]) rfl (by kernel_rfl) (pk_then pk_body) (by kernel_rfl) rfl (by kernel_rfl) (by kernel_rfl) rfl (.inl fun _ h => h.2.1) ⟨⟨hS185.hasK (KLe.refl _), hS185.hasObj (.tail _ (.tail _ (.tail _ (.tail _ (.head _))))), hS185.hasObj (.head _)⟩, (fun _ => trivial), by decide⟩ wn rfl (fun _ h => rh_loadmS (ds := [.slice a22 n23 c24, .slice a26 n27 c28]) tf26 rfl rfl rfl h) ?_
    refine wg_val (i := 1) (listed' := #[true, true, false, false]) (HasObj g51 [.slice a30 n31 c32, .slice a173 n174 c175]) rfl (by kernel_rfl) (pk_then pk_body) (by kernel_rfl) rfl (by kernel_rfl) (by kernel_rfl) rfl (.inl fun _ h => h.2.2) ⟨⟨hS185.hasK (KLe.refl _), hS185.hasObj (.tail _ (.tail _ (.tail _ (.tail _ (.head _))))), hS185.hasObj (.head _)⟩, (fun _ => trivial), by decide⟩ wn rfl (fun _ h => rh_loadmS (ds := [.slice a30 n31 c32, .slice a173 n174 c175]) tf30 rfl rfl rfl h) ?_
    refine wg_one (i := 2) (by kernel_rfl) rfl ?_
    have hS186 : SH _ _ _ _ _ [_, _, _, _, _, _, _, _, _, _] := SH.front (p := [_, _, _, _, _, _, _, _, _]) hS185
    refine wl_store (cs' := [.slice a22 n23 c24, .slice a26 n27 c28]) (v := .agg #[.slice a22 n23 c24, .slice a26 n27 c28]) wn tf26 rfl rfl rfl (by simp [Value.cells, Value.oneCell']) hS186 rfl rfl ?_
    intro w187 hS188
    refine wl_nil (qe_held (listed' := #[true, true, true, false]) rfl ⟨⟨hS188.hasK (KLe.refl _), hS188.hasObj (.tail _ (.tail _ (.tail _ (.tail _ (.tail _ (.head _)))))), hS188.hasObj (.tail _ (.head _))⟩, (fun _ => trivial), by decide⟩ ?_)
    refine wg_one (i := 3) (by kernel_rfl) rfl ?_
    have hS189 : SH _ _ _ _ _ [_, _, _, _, _, _, _, _, _, _] := SH.front (p := [_, _, _, _, _, _, _, _, _]) hS188
    refine wl_store (cs' := [.slice a30 n31 c32, .slice a173 n174 c175]) (v := .agg #[.slice a30 n31 c32, .slice a173 n174 c175]) wn tf30 rfl rfl rfl (by simp [Value.cells, Value.oneCell']) hS189 rfl rfl ?_
    intro w190 hS191
    refine wl_nil (qe_held (listed' := #[true, true, true, true]) rfl ⟨⟨hS191.hasK (KLe.refl _), hS191.hasObj (.tail _ (.tail _ (.tail _ (.tail _ (.tail _ (.tail _ (.head _))))))), hS191.hasObj (.tail _ (.tail _ (.head _)))⟩, (fun _ => trivial), by decide⟩ ?_)
    refine wg_done (by kernel_rfl) ?_
    refine qe_seq ?_
    refine wc_ret ?_
    have hS192 : SH _ _ _ _ _ [_, _, _, _, _, _, _, _, _, _] := SH.front (p := [_, _, _]) hS191
    obtain ⟨K193, hl194, hs195, hS196⟩ := SH.freezeI hS192 hrow178 hm179
    obtain rfl := oi h172
    have hS197 : SH _ _ _ _ _ [_, _, _, _, _, _, _, _, _, _] := SH.front (p := [_, _, _, _, _]) hS196
    have hS198 : SH _ _ _ _ _ [_, _, _, _, _, _, _, _, _, _] := SH.front (p := [_]) hS197
    have hS199 : SH _ _ _ _ _ [_, _, _, _, _, _, _, _, _, _] := SH.front (p := [_, _, _, _, _, _, _, _]) hS198
    have hS200 : SH _ _ _ _ _ [_, _, _, _, _, _, _, _, _, _] := SH.front (p := [_, _, _, _, _, _, _, _]) hS199
    have hS201 : SH _ _ _ _ _ [_, _, _, _] := SH.sublist hS200 (.cons_cons _ (.cons_cons _ (.cons_cons _ (.cons_cons _ (.cons _ (.cons _ (.cons _ (.cons _ (.cons _ (.cons _ .slnil))))))))))
    exact qe_ret (vs := [_, _]) Tryz.results44 ⟨⟨_, _, rfl, run_loadVar_at tf26 (cs := [.slice a22 n23 c24, .slice a26 n27 c28]) (fun j c e => by rw [Nat.zero_add, hS196.mem_obj (.tail _ (.tail _ (.head _)))]; exact e) (.inl ⟨rfl, rfl, rfl⟩)⟩, ⟨_, _, rfl, run_loadVar_at tf30 (cs := [.slice a30 n31 c32, .slice a173 n174 c175]) (fun j c e => by rw [Nat.zero_add, hS196.mem_obj (.tail _ (.head _))]; exact e) (.inl ⟨rfl, rfl, rfl⟩)⟩, trivial⟩ ⟨a22, n23, c24, a26, n27, c28, a30, n31, c32, a173, n174, c175, a85, n86, c87, K193, rfl, hS201, (SliceAt.mono (((hS69.le.trans hS83.le).trans hl166).trans hl194) hs25), (SliceAt.mono (((hS69.le.trans hS83.le).trans hl166).trans hl194) hs29), (SliceAt.mono (((hS69.le.trans hS83.le).trans hl166).trans hl194) hs33), hs195, (SliceAt.mono (hl166.trans hl194) hs88), hr89⟩
   ·have h145 := cond_f hb144 h93
    refine sr ?_
    refine wl_val wn rfl (rv_eql rfl rfl) ?_
    refine va rfl rfl ?_
    refine nq ?_
    refine wc_cond rfl (fun hb202 => ?_) (fun hb202 => ?_)
    ·have h203 := cond_t hb202 h145
     refine wc_region ?_
     refine wl_val wn rfl (rv_fieldAddr ff30_0 rfl) ?_
     refine wl_val wn rfl (rv_loadm1 tf27 rfl (.tail _ (.head _)) hS91 rfl) ?_
     obtain ⟨x204, hx205, h206⟩ := ob h203
     refine wl_sl_l (t := tGDoc) wn rfl Tryz.underlying27 tf44 rfl rfl (SliceAt.mono (hS69.le.trans hS83.le) hs33) hx205 ?_
     intro a207 n208 c209 hs210
     refine wl_val wn rfl (rv_fieldAddr ff30_0 rfl) ?_
     have hS211 : SH _ _ _ _ _ [_, _, _, _, _, _, _, _, _] := SH.front (p := [_]) hS91
     refine wl_store (cs' := [.slice a207 n208 c209, .slice a34 n35 c36]) (v := .slice a207 n208 c209) wn tf27 rfl rfl rfl (by simp [Value.cells, Value.oneCell']) hS211 rfl rfl ?_
     intro w212 hS213
     refine nb ?_
     refine qs ?_
     refine wc_held (fun w' => Holds K81 w' ∧ HasObj g47 [.slice a22 n23 c24, .slice a26 n27 c28] w' ∧ HasObj g51 [.slice a207 n208 c209, .slice a34 n35 c36] w') (fun w' => True) 4 [] mixed ?_
     have hS215 := SH.drew hS213
     refine wg_val (i := 0) (listed' := #[true, false, false, false]) (HasObj g47 [.slice a22 n23 c24, .slice a26 n27 c28]) rfl (by kernel_rfl) (pk_then pk_body) (by kernel_rfl) rfl (by kernel_rfl) (by kernel_rfl) rfl (.inl fun _ h => h.2.1) ⟨⟨hS215.hasK (KLe.refl _), hS215.hasObj (.tail _ (.tail _ (.head _))), hS215.hasObj (.head _)⟩, (fun _ => trivial), by decide⟩ wn rfl (fun _ h => rh_loadmS (ds := [.slice a22 n23 c24, .slice a26 n27 c28]) tf26 rfl rfl rfl h) ?_
     refine wg_val (i := 1) (listed' := #[true, true, false, false]) (HasObj g51 [.slice a207 n208 c209, .slice a34 n35 c36]) rfl (by kernel_rfl) (pk_then pk_body) (by kernel_rfl) rfl (by kernel_rfl) (by kernel_rfl) rfl (.inl fun _ h => h.2.2) ⟨⟨hS215.hasK (KLe.refl _), hS215.hasObj (.tail _ (.tail _ (.head _))), hS215.hasObj (.head _)⟩, (fun _ => trivial), by decide⟩ wn rfl (fun _ h => rh_loadmS (ds := [.slice a207 n208 c209, .slice a34 n35 c36]) tf30 rfl rfl rfl h) ?_
     refine wg_one (i := 2) (by kernel_rfl) rfl ?_
     have hS216 : SH _ _ _ _ _ [_, _, _, _, _, _, _, _, _] := SH.front (p := [_, _, _, _, _, _, _, _]) hS215
     refine wl_store (cs' := [.slice a22 n23 c24, .slice a26 n27 c28]) (v := .agg #[.slice a22 n23 c24, .slice a26 n27 c28]) wn tf26 rfl rfl rfl (by simp [Value.cells, Value.oneCell']) hS216 rfl rfl ?_
     intro w217 hS218
     refine wl_nil (qe_held (listed' := #[true, true, true, false]) rfl ⟨⟨hS218.hasK (KLe.refl _), hS218.hasObj (.tail _ (.tail _ (.tail _ (.head _)))), hS218.hasObj (.tail _ (.head _))⟩, (fun _ => trivial), by decide⟩ ?_)
     refine wg_one (i := 3) (by kernel_rfl) rfl ?_
     have hS219 : SH _ _ _ _ _ [_, _, _, _, _, _, _, _, _] := SH.front (p := [_, _, _, _, _, _, _, _]) hS218
     refine wl_store (cs' := [.slice a207 n208 c209, .slice a34 n35 c36]) (v := .agg #[.slice a207 n208 c209, .slice a34 n35 c36]) wn tf30 rfl rfl rfl (by simp [Value.cells, Value.oneCell']) hS219 rfl rfl ?_
     intro w220 hS221
     refine wl_nil (qe_held (listed' := #[true, true, true, true]) rfl ⟨⟨hS221.hasK (KLe.refl _), hS221.hasObj (.tail _ (.tail _ (.tail _ (.tail _ (.head _))))), hS221.hasObj (.tail _ (.tail _ (.head _)))⟩, (fun _ => trivial), by decide⟩ ?_)
     refine wg_done (by kernel_rfl) ?_
     refine qe_seq ?_
     refine wc_ret ?_
     have hS222 : SH _ _ _ _ _ [_, _, _, _, _, _, _, _, _] := SH.front (p := [_, _, _, _, _, _, _, _]) hS221
     obtain ⟨K223, hl224, hs225, hS226⟩ := SH.freezeI hS222 (RowAt.mono (hS69.le.trans hS83.le) hrow38) hm39
     obtain rfl := oi h206
     have hS227 : SH _ _ _ _ _ [_, _, _, _, _, _, _, _, _] := SH.front (p := [_, _, _, _]) hS226
     have hS228 : SH _ _ _ _ _ [_, _, _, _, _, _, _, _, _] := SH.front (p := [_]) hS227
     have hS229 : SH _ _ _ _ _ [_, _, _, _, _, _, _, _, _] := SH.front (p := [_, _, _, _, _, _, _]) hS228
     have hS230 : SH _ _ _ _ _ [_, _, _, _, _, _, _, _, _] := SH.front (p := [_, _, _, _, _, _, _]) hS229
     have hS231 : SH _ _ _ _ _ [_, _, _, _] := SH.sublist hS230 (.cons_cons _ (.cons_cons _ (.cons_cons _ (.cons_cons _ (.cons _ (.cons _ (.cons _ (.cons _ (.cons _ .slnil)))))))))
     exact qe_ret (vs := [_, _]) Tryz.results44 ⟨⟨_, _, rfl, run_loadVar_at tf26 (cs := [.slice a22 n23 c24, .slice a26 n27 c28]) (fun j c e => by rw [Nat.zero_add, hS226.mem_obj (.tail _ (.tail _ (.head _)))]; exact e) (.inl ⟨rfl, rfl, rfl⟩)⟩, ⟨_, _, rfl, run_loadVar_at tf30 (cs := [.slice a207 n208 c209, .slice a34 n35 c36]) (fun j c e => by rw [Nat.zero_add, hS226.mem_obj (.tail _ (.head _))]; exact e) (.inl ⟨rfl, rfl, rfl⟩)⟩, trivial⟩ ⟨a22, n23, c24, a26, n27, c28, a207, n208, c209, a34, n35, c36, a85, n86, c87, K223, rfl, hS231, (SliceAt.mono ((hS69.le.trans hS83.le).trans hl224) hs25), (SliceAt.mono ((hS69.le.trans hS83.le).trans hl224) hs29), (SliceAt.mono hl224 hs210), hs225, (SliceAt.mono hl224 hs88), hr89⟩
    ·have h203 := cond_f hb202 h145
     refine wc_skip ?_
     refine qe_block ?_
     refine qs ?_
     refine wc_held (fun w' => Holds K81 w' ∧ HasObj g47 [.slice a22 n23 c24, .slice a26 n27 c28] w' ∧ HasObj g51 [.slice a30 n31 c32, .slice a34 n35 c36] w') (fun w' => True) 4 [] mixed ?_
     have hS233 := SH.drew hS91
     refine wg_val (i := 0) (listed' := #[true, false, false, false]) (HasObj g47 [.slice a22 n23 c24, .slice a26 n27 c28]) rfl (by kernel_rfl) (pk_then pk_body) (by kernel_rfl) rfl (by kernel_rfl) (by kernel_rfl) rfl (.inl fun _ h => h.2.1) ⟨⟨hS233.hasK (KLe.refl _), hS233.hasObj (.tail _ (.tail _ (.head _))), hS233.hasObj (.tail _ (.head _))⟩, (fun _ => trivial), by decide⟩ wn rfl (fun _ h => rh_loadmS (ds := [.slice a22 n23 c24, .slice a26 n27 c28]) tf26 rfl rfl rfl h) ?_
     refine wg_val (i := 1) (listed' := #[true, true, false, false]) (HasObj g51 [.slice a30 n31 c32, .slice a34 n35 c36]) rfl (by kernel_rfl) (pk_then pk_body) (by kernel_rfl) rfl (by kernel_rfl) (by kernel_rfl) rfl (.inl fun _ h => h.2.2) ⟨⟨hS233.hasK (KLe.refl _), hS233.hasObj (.tail _ (.tail _ (.head _))), hS233.hasObj (.tail _ (.head _))⟩, (fun _ => trivial), by decide⟩ wn rfl (fun _ h => rh_loadmS (ds := [.slice a30 n31 c32, .slice a34 n35 c36]) tf30 rfl rfl rfl h) ?_
     refine wg_one (i := 2) (by kernel_rfl) rfl ?_
     have hS234 : SH _ _ _ _ _ [_, _, _, _, _, _, _, _, _] := SH.front (p := [_, _, _, _, _, _, _, _]) hS233
     refine wl_store (cs' := [.slice a22 n23 c24, .slice a26 n27 c28]) (v := .agg #[.slice a22 n23 c24, .slice a26 n27 c28]) wn tf26 rfl rfl rfl (by simp [Value.cells, Value.oneCell']) hS234 rfl rfl ?_
     intro w235 hS236
     refine wl_nil (qe_held (listed' := #[true, true, true, false]) rfl ⟨⟨hS236.hasK (KLe.refl _), hS236.hasObj (.tail _ (.tail _ (.tail _ (.head _)))), hS236.hasObj (.tail _ (.tail _ (.head _)))⟩, (fun _ => trivial), by decide⟩ ?_)
     refine wg_one (i := 3) (by kernel_rfl) rfl ?_
     have hS237 : SH _ _ _ _ _ [_, _, _, _, _, _, _, _, _] := SH.front (p := [_, _, _, _, _, _, _, _]) hS236
     refine wl_store (cs' := [.slice a30 n31 c32, .slice a34 n35 c36]) (v := .agg #[.slice a30 n31 c32, .slice a34 n35 c36]) wn tf30 rfl rfl rfl (by simp [Value.cells, Value.oneCell']) hS237 rfl rfl ?_
     intro w238 hS239
     refine wl_nil (qe_held (listed' := #[true, true, true, true]) rfl ⟨⟨hS239.hasK (KLe.refl _), hS239.hasObj (.tail _ (.tail _ (.tail _ (.tail _ (.head _))))), hS239.hasObj (.tail _ (.tail _ (.tail _ (.head _))))⟩, (fun _ => trivial), by decide⟩ ?_)
     refine wg_done (by kernel_rfl) ?_
     refine qe_seq ?_
     refine wc_ret ?_
     have hS240 : SH _ _ _ _ _ [_, _, _, _, _, _, _, _, _] := SH.front (p := [_, _, _, _, _, _, _, _]) hS239
     obtain ⟨K241, hl242, hs243, hS244⟩ := SH.freezeI hS240 (RowAt.mono (hS69.le.trans hS83.le) hrow38) hm39
     obtain rfl := oi h203
     have hS245 : SH _ _ _ _ _ [_, _, _, _, _, _, _, _, _] := SH.front (p := [_, _, _]) hS244
     have hS246 : SH _ _ _ _ _ [_, _, _, _, _, _, _, _, _] := SH.front (p := [_]) hS245
     have hS247 : SH _ _ _ _ _ [_, _, _, _, _, _, _, _, _] := SH.front (p := [_, _, _, _, _, _, _]) hS246
     have hS248 : SH _ _ _ _ _ [_, _, _, _, _, _, _, _, _] := SH.front (p := [_, _, _, _, _, _, _]) hS247
     have hS249 : SH _ _ _ _ _ [_, _, _, _] := SH.sublist hS248 (.cons_cons _ (.cons_cons _ (.cons_cons _ (.cons_cons _ (.cons _ (.cons _ (.cons _ (.cons _ (.cons _ .slnil)))))))))
     exact qe_ret (vs := [_, _]) Tryz.results44 ⟨⟨_, _, rfl, run_loadVar_at tf26 (cs := [.slice a22 n23 c24, .slice a26 n27 c28]) (fun j c e => by rw [Nat.zero_add, hS244.mem_obj (.tail _ (.tail _ (.head _)))]; exact e) (.inl ⟨rfl, rfl, rfl⟩)⟩, ⟨_, _, rfl, run_loadVar_at tf30 (cs := [.slice a30 n31 c32, .slice a34 n35 c36]) (fun j c e => by rw [Nat.zero_add, hS244.mem_obj (.tail _ (.head _))]; exact e) (.inl ⟨rfl, rfl, rfl⟩)⟩, trivial⟩ ⟨a22, n23, c24, a26, n27, c28, a30, n31, c32, a34, n35, c36, a85, n86, c87, K241, rfl, hS249, (SliceAt.mono ((hS69.le.trans hS83.le).trans hl242) hs25), (SliceAt.mono ((hS69.le.trans hS83.le).trans hl242) hs29), (SliceAt.mono ((hS69.le.trans hS83.le).trans hl242) hs33), hs243, (SliceAt.mono hl242 hs88), hr89⟩
 ·have h62 := cond_f hb61 h17
  refine wc_skip ?_
  refine qs ?_
  refine wc_held (fun w' => Holds K19 w' ∧ HasObj g47 [.slice a22 n23 c24, .slice a26 n27 c28] w' ∧ HasObj g51 [.slice a30 n31 c32, .slice a34 n35 c36] w') (fun w' => True) 4 [] mixed ?_
  have hS251 := SH.drew hS60
  refine wg_val (i := 0) (listed' := #[true, false, false, false]) (HasObj g47 [.slice a22 n23 c24, .slice a26 n27 c28]) rfl (by kernel_rfl) (pk_then pk_body) (by kernel_rfl) rfl (by kernel_rfl) (by kernel_rfl) rfl (.inl fun _ h => h.2.1) ⟨⟨hS251.hasK (KLe.refl _), hS251.hasObj (.tail _ (.head _)), hS251.hasObj (.head _)⟩, (fun _ => trivial), by decide⟩ wn rfl (fun _ h => rh_loadmS (ds := [.slice a22 n23 c24, .slice a26 n27 c28]) tf26 rfl rfl rfl h) ?_
  refine wg_val (i := 1) (listed' := #[true, true, false, false]) (HasObj g51 [.slice a30 n31 c32, .slice a34 n35 c36]) rfl (by kernel_rfl) (pk_then pk_body) (by kernel_rfl) rfl (by kernel_rfl) (by kernel_rfl) rfl (.inl fun _ h => h.2.2) ⟨⟨hS251.hasK (KLe.refl _), hS251.hasObj (.tail _ (.head _)), hS251.hasObj (.head _)⟩, (fun _ => trivial), by decide⟩ wn rfl (fun _ h => rh_loadmS (ds := [.slice a30 n31 c32, .slice a34 n35 c36]) tf30 rfl rfl rfl h) ?_
  refine wg_one (i := 2) (by kernel_rfl) rfl ?_
  have hS252 : SH _ _ _ _ _ [_, _, _, _, _, _, _, _, _] := SH.front (p := [_, _, _, _, _, _, _, _]) hS251
  refine wl_store (cs' := [.slice a22 n23 c24, .slice a26 n27 c28]) (v := .agg #[.slice a22 n23 c24, .slice a26 n27 c28]) wn tf26 rfl rfl rfl (by simp [Value.cells, Value.oneCell']) hS252 rfl rfl ?_
  intro w253 hS254
  refine wl_nil (qe_held (listed' := #[true, true, true, false]) rfl ⟨⟨hS254.hasK (KLe.refl _), hS254.hasObj (.tail _ (.tail _ (.head _))), hS254.hasObj (.tail _ (.head _))⟩, (fun _ => trivial), by decide⟩ ?_)
  refine wg_one (i := 3) (by kernel_rfl) rfl ?_
  have hS255 : SH _ _ _ _ _ [_, _, _, _, _, _, _, _, _] := SH.front (p := [_, _, _, _, _, _, _, _]) hS254
  refine wl_store (cs' := [.slice a30 n31 c32, .slice a34 n35 c36]) (v := .agg #[.slice a30 n31 c32, .slice a34 n35 c36]) wn tf30 rfl rfl rfl (by simp [Value.cells, Value.oneCell']) hS255 rfl rfl ?_
  intro w256 hS257
  refine wl_nil (qe_held (listed' := #[true, true, true, true]) rfl ⟨⟨hS257.hasK (KLe.refl _), hS257.hasObj (.tail _ (.tail _ (.tail _ (.head _)))), hS257.hasObj (.tail _ (.tail _ (.head _)))⟩, (fun _ => trivial), by decide⟩ ?_)
  refine wg_done (by kernel_rfl) ?_
  refine qe_seq ?_
  refine wc_ret ?_
  have hS258 : SH _ _ _ _ _ [_, _, _, _, _, _, _, _, _] := SH.front (p := [_, _, _, _, _, _, _]) hS257
  obtain ⟨K259, hl260, hs261, hS262⟩ := SH.freezeI hS258 hrow38 hm39
  obtain rfl := oi h62
  have hS263 : SH _ _ _ _ _ [_, _, _, _, _, _, _, _, _] := SH.front (p := [_, _, _, _, _, _, _, _]) hS262
  have hS264 : SH _ _ _ _ _ [_, _, _, _, _, _, _, _, _] := SH.front (p := [_]) hS263
  have hS265 : SH _ _ _ _ _ [_, _, _, _, _, _, _, _, _] := SH.front (p := [_, _, _, _, _, _, _]) hS264
  have hS266 : SH _ _ _ _ _ [_, _, _, _, _, _, _, _, _] := SH.front (p := [_, _, _, _, _, _, _]) hS265
  have hS267 : SH _ _ _ _ _ [_, _, _, _] := SH.sublist hS266 (.cons_cons _ (.cons_cons _ (.cons_cons _ (.cons_cons _ (.cons _ (.cons _ (.cons _ (.cons _ (.cons _ .slnil)))))))))
  exact qe_ret (vs := [_, _]) Tryz.results44 ⟨⟨_, _, rfl, run_loadVar_at tf26 (cs := [.slice a22 n23 c24, .slice a26 n27 c28]) (fun j c e => by rw [Nat.zero_add, hS262.mem_obj (.tail _ (.tail _ (.head _)))]; exact e) (.inl ⟨rfl, rfl, rfl⟩)⟩, ⟨_, _, rfl, run_loadVar_at tf30 (cs := [.slice a30 n31 c32, .slice a34 n35 c36]) (fun j c e => by rw [Nat.zero_add, hS262.mem_obj (.tail _ (.head _))]; exact e) (.inl ⟨rfl, rfl, rfl⟩)⟩, trivial⟩ ⟨a22, n23, c24, a26, n27, c28, a30, n31, c32, a34, n35, c36, a40, n41, c42, K259, rfl, hS267, (SliceAt.mono hl260 hs25), (SliceAt.mono hl260 hs29), (SliceAt.mono hl260 hs33), hs261, (SliceAt.mono hl260 hs43), hr44⟩

theorem ok_spec_l30Field (F : Nat) {w : World} {K : KMap} {g1 : Nat} {a2 : Option Addr} {n3 c4 : Nat} {p0_r : GL30Rd} {r : Str × GL30Rd} (hS : SH w K (List.flatMap Item.gs [obj g1 [.slice a2 n3 c4, .int .i64 p0_r.p_] 141]) w K [obj g1 [.slice a2 n3 c4, .int .i64 p0_r.p_] 141]) (hs5 : SliceAt tU8 K a2 n3 c4 p0_r.b_) (hr6 : rng64 p0_r.p_) (hm : M.spec_l30Field F p0_r = some r) :
  Calls Tryz.prog 45 #[.pointer (some ⟨g1, 0, none⟩)] w fun e w' => ∃ (a_2 : Option Addr) (n_3 c_4 : Nat) (K' : KMap), e = .returned (sv r.1) ∧ SH w K (List.flatMap Item.gs [obj g1 [.slice a2 n3 c4, .int .i64 p0_r.p_] 141]) w' K' [obj g1 [.slice a_2 n_3 c_4, .int .i64 r.2.p_] 141] ∧ r.1.length ≤ maxLen ∧ SliceAt tU8 K' a_2 n_3 c_4 r.2.b_ ∧ rng64 r.2.p_ := by
 rw [M.spec_l30Field] at hm
 refine calls_in Tryz.func45 rfl Tryz.ntmps45 rfl ?_
 refine sr ?_
 refine wl_val wn rfl (rv_assign (v := sv []) rfl) ?_
 refine nr ?_
 refine vm rfl rfl ?_
 refine wl_buildSlice (t := tStr) (n := 4) (pv := [(0, sv [98, 111, 100, 121]), (1, sv [98, 111, 100, 121]), (2, sv [116, 105, 116, 108, 101]), (3, sv [110, 111, 110, 101])]) (cs := [sv [98, 111, 100, 121], sv [98, 111, 100, 121], sv [116, 105, 116, 108, 101], sv [110, 111, 110, 101]]) (xs := [([98, 111, 100, 121] : Str), ([98, 111, 100, 121] : Str), ([116, 105, 116, 108, 101] : Str), ([110, 111, 110, 101] : Str)]) wn rfl Tryz.underlying23 tf9 rfl rfl rfl (by kernel_rfl) rfl rfl (lit_cons (u := sv [98, 111, 100, 121]) (z := ([98, 111, 100, 121] : Str)) ⟨rfl, (by decide : ([98, 111, 100, 121] : Str).length ≤ maxLen)⟩ (lit_cons (u := sv [98, 111, 100, 121]) (z := ([98, 111, 100, 121] : Str)) ⟨rfl, (by decide : ([98, 111, 100, 121] : Str).length ≤ maxLen)⟩ (lit_cons (u := sv [116, 105, 116, 108, 101]) (z := ([116, 105, 116, 108, 101] : Str)) ⟨rfl, (by decide : ([116, 105, 116, 108, 101] : Str).length ≤ maxLen)⟩ (lit_cons (u := sv [110, 111, 110, 101]) (z := ([110, 111, 110, 101] : Str)) ⟨rfl, (by decide : ([110, 111, 110, 101] : Str).length ≤ maxLen)⟩ lit_nil)))) hS ?_
 intro a7 w8 K9 hl10 hs11 hS12
 obtain ⟨r13, hx14, h15⟩ := ob hm
 have hS16 : SH _ _ _ _ _ [_, _] := SH.front (p := [_]) hS12
 refine wl_call wn rfl (rt_call (vs := [.pointer (some ⟨g1, 0, none⟩), .slice a7 4 4]) co46 rfl) ((ok_spec_l30Rd_of F) (SH.enter (Lin := [_]) hS16) (SliceAt.mono hl10 hs5) hr6 hs11 hx14) ?_
 rintro e26 w18 ⟨a21, n22, c23, K17, rfl, hS19, hl20, hs24, hr25⟩
 refine ⟨_, rfl, ?_⟩
 have hS27 : SH _ _ _ _ _ [_, _] := SH.call (Lin := [_]) hS16 hS19
 refine va rfl rfl ?_
 refine nq ?_
 refine wc_ret ?_
 obtain rfl := oi h15
 have hS28 : SH _ _ _ _ _ [_] := SH.sublist hS27 (.cons_cons _ (.cons _ .slnil))
 exact qe_ret (vs := [_]) Tryz.results45 ⟨rfl, trivial⟩ ⟨a21, n22, c23, K17, rfl, hS28, hl20, hs24, hr25⟩

theorem ok_spec_DrawSegPosts (F : Nat) {w : World} {K : KMap} {a1 : Option Addr} {n2 c3 : Nat} {p0_code : List UInt8} {r : GConf × GSeg × Str × Str} (hS : SH w K [] w K []) (hs4 : SliceAt tU8 K a1 n2 c3 p0_code) (hm : M.spec_DrawSegPosts F p0_code = some r) :
  Calls Tryz.prog 9 #[.slice a1 n2 c3] w fun e w' => ∃ (a_1 : Option Addr) (n_2 c_3 : Nat) (a_5 : Option Addr) (n_6 c_7 : Nat) (a_9 : Option Addr) (n_10 c_11 : Nat) (a_13 : Option Addr) (n_14 c_15 : Nat) (K' : KMap), e = .returned (.tuple #[.agg #[.slice a_1 n_2 c_3, .slice a_5 n_6 c_7], .agg #[.slice a_9 n_10 c_11, .slice a_13 n_14 c_15], sv r.2.2.1, sv r.2.2.2]) ∧ SH w K [] w' K' [tail (.slice a_1 n_2 c_3) 9 1, tail (.slice a_5 n_6 c_7) 106 2, tail (.slice a_13 n_14 c_15) 94 3] ∧ SliceAt tStr K' a_1 n_2 c_3 r.1.Stops ∧ SliceAt tGSyn K' a_5 n_6 c_7 r.1.Syns ∧ SliceAt tGDoc K' a_9 n_10 c_11 r.2.1.Docs ∧ SliceAt tGEntry K' a_13 n_14 c_15 r.2.1.Entries ∧ r.2.2.1.length ≤ maxLen ∧ r.2.2.2.length ≤ maxLen := by
 rw [M.spec_DrawSegPosts] at hm
 refine calls_in Tryz.func9 rfl Tryz.ntmps9 rfl ?_
 refine sr ?_
 refine wl_alloc wn rfl tf26 hS ?_
 intro g5 w6 hS7
 have hS8 : SH _ _ _ _ _ [obj g5 [.slice none 0 0, .slice none 0 0] 26] := hS7
 refine wl_alloc wn rfl tf30 hS8 ?_
 intro g9 w10 hS11
 have hS12 : SH _ _ _ _ _ [obj g9 [.slice none 0 0, .slice none 0 0] 30, _] := hS11
 refine wl_val wn rfl (rv_assign (v := sv []) rfl) ?_
 refine wl_val wn rfl (rv_assign (v := sv []) rfl) ?_
 refine nr ?_
 refine vm rfl rfl ?_
 obtain ⟨r13, hx14, h15⟩ := ob hm
 refine wl_call wn rfl (rt_call (vs := [.slice a1 n2 c3]) co43 rfl) ((ok_spec_l30Open F) hS12.enter0 hs4 hx14) ?_
 rintro e25 w17 ⟨g19, a20, n21, c22, K16, rfl, hS18, hs23, hr24⟩
 refine ⟨_, rfl, ?_⟩
 have hS26 : SH _ _ _ _ _ [_, _, _] := SH.call0 hS12 hS18
 refine va rfl rfl ?_
 refine nr ?_
 refine vm rfl rfl ?_
 obtain ⟨r27, hx28, h29⟩ := ob h15
 refine wl_call wn rfl (rt_call (vs := [.pointer (some ⟨g19, 0, none⟩)]) co44 rfl) ((ok_spec_l30AnySeg F) (SH.enter (Lin := [_]) hS26) hs23 hr24 hx28) ?_
 rintro e54 w31 ⟨a33, n34, c35, a37, n38, c39, a41, n42, c43, a45, n46, c47, a49, n50, c51, K30, rfl, hS32, hs36, hs40, hs44, hs48, hs52, hr53⟩
 refine ⟨_, rfl, ?_⟩
 have hS55 : SH _ _ _ _ _ [_, _, _, _, _, _] := SH.call (Lin := [_]) hS26 hS32
 refine vm rfl rfl ?_
 refine wl_val wn rfl (rv_extract rfl rfl) ?_
 refine wl_val wn rfl (rv_extract rfl rfl) ?_
 refine wl_alloc wn rfl tf26 hS55 ?_
 intro g56 w57 hS58
 have hS59 : SH _ _ _ _ _ [obj g56 [.slice none 0 0, .slice none 0 0] 26, _, _, _, _, _, _] := hS58
 refine wl_alloc wn rfl tf30 hS59 ?_
 intro g60 w61 hS62
 have hS63 : SH _ _ _ _ _ [obj g60 [.slice none 0 0, .slice none 0 0] 30, _, _, _, _, _, _, _] := hS62
 have hS64 : SH _ _ _ _ _ [_, _, _, _, _, _, _, _] := SH.front (p := [_]) hS63
 refine wl_store (cs' := [.slice a33 n34 c35, .slice a37 n38 c39]) (v := .agg #[.slice a33 n34 c35, .slice a37 n38 c39]) wn tf26 rfl rfl rfl (by simp [Value.cells, Value.oneCell']) hS64 rfl rfl ?_
 intro w65 hS66
 have hS67 : SH _ _ _ _ _ [_, _, _, _, _, _, _, _] := SH.front (p := [_]) hS66
 refine wl_store (cs' := [.slice a41 n42 c43, .slice a45 n46 c47]) (v := .agg #[.slice a41 n42 c43, .slice a45 n46 c47]) wn tf30 rfl rfl rfl (by simp [Value.cells, Value.oneCell']) hS67 rfl rfl ?_
 intro w68 hS69
 refine ns ?_
 obtain ⟨r72, hx73, h74⟩ := ob h29
 obtain ⟨r93, hx94, h95⟩ := ob h74
 refine wc_held (fun w' => Holds K30 w' ∧ HasObj g56 [.slice a33 n34 c35, .slice a37 n38 c39] w' ∧ HasObj g60 [.slice a41 n42 c43, .slice a45 n46 c47] w') (fun w' => True) 11 [] mixed ?_
 have hS71 := SH.drew hS69
 refine wg_val (i := 0) (listed' := #[true, false, false, false, false, false, false, false, false, false, false]) (HasObj g56 [.slice a33 n34 c35, .slice a37 n38 c39]) rfl (by kernel_rfl) (pk_then pk_body) (by kernel_rfl) rfl (by kernel_rfl) (by kernel_rfl) rfl (.inl fun _ h => h.2.1) ⟨⟨hS71.hasK (KLe.refl _), hS71.hasObj (.tail _ (.head _)), hS71.hasObj (.head _)⟩, (fun _ => trivial), by decide⟩ wn rfl (fun _ h => rh_loadmS (ds := [.slice a33 n34 c35, .slice a37 n38 c39]) tf26 rfl rfl rfl h) ?_
 refine wg_val (i := 1) (listed' := #[true, true, false, false, false, false, false, false, false, false, false]) (HasObj g60 [.slice a41 n42 c43, .slice a45 n46 c47]) rfl (by kernel_rfl) (pk_then pk_body) (by kernel_rfl) rfl (by kernel_rfl) (by kernel_rfl) rfl (.inl fun _ h => h.2.2) ⟨⟨hS71.hasK (KLe.refl _), hS71.hasObj (.tail _ (.head _)), hS71.hasObj (.head _)⟩, (fun _ => trivial), by decide⟩ wn rfl (fun _ h => rh_loadmS (ds := [.slice a41 n42 c43, .slice a45 n46 c47]) tf30 rfl rfl rfl h) ?_
 refine wg_val (i := 2) (listed' := #[true, true, true, false, false, false, false, false, false, false, false]) (fun _ => True) rfl (by kernel_rfl) (pk_then pk_body) (by kernel_rfl) rfl (by kernel_rfl) (by kernel_rfl) rfl (.inl fun _ _ => trivial) ⟨⟨hS71.hasK (KLe.refl _), hS71.hasObj (.tail _ (.head _)), hS71.hasObj (.head _)⟩, (fun _ => trivial), by decide⟩ wn rfl (fun _ _ => (rv_move rfl)) ?_
 refine wg_val (i := 4) (listed' := #[true, true, true, false, true, false, false, false, false, false, false]) (fun _ => True) rfl (by kernel_rfl) (pk_then pk_body) (by kernel_rfl) rfl (by kernel_rfl) (by kernel_rfl) rfl (.inl fun _ _ => trivial) ⟨⟨hS71.hasK (KLe.refl _), hS71.hasObj (.tail _ (.head _)), hS71.hasObj (.head _)⟩, (fun _ => trivial), by decide⟩ wn rfl (fun _ _ => (rv_move rfl)) ?_
 refine wg_many (l := [3, 5]) (by kernel_rfl) rfl ⟨⟨_, rfl, ?_⟩, ⟨_, rfl, ?_⟩, trivial⟩
 ·have hS114 : SH _ _ _ _ _ [_, _, _, _, _, _, _, _] := SH.front (p := [_, _, _, _, _]) hS71
  refine wl_call wn rfl (rt_call (vs := [.pointer (some ⟨g19, 0, none⟩)]) co45 rfl) ((ok_spec_l30Field F) (SH.enter (Lin := [_]) hS114) hs52 hr53 hx73) ?_
  rintro e124 w116 ⟨a119, n120, c121, K115, rfl, hS117, hl118, hs122, hr123⟩
  refine ⟨_, rfl, ?_⟩
  have hS125 : SH _ _ _ _ _ [_, _, _, _, _, _, _, _] := SH.call (Lin := [_]) hS114 hS117
  refine wl_nil (qe_held (listed' := #[true, true, true, true, true, false, false, false, false, false, false]) rfl ⟨⟨hS125.hasK hS117.le, hS125.hasObj (.tail _ (.tail _ (.head _))), hS125.hasObj (.tail _ (.head _))⟩, (fun _ => trivial), by decide⟩ ?_)
  refine wg_one (i := 5) (by kernel_rfl) rfl ?_
  refine wl_buildSlice (t := tStr) (n := 8) (pv := [(0, sv [99, 97, 116]), (1, sv [100, 111, 103]), (2, sv [114, 117, 110]), (3, sv [110, 121]), (4, sv [110, 101, 119]), (5, sv [102, 111, 120]), (6, sv [122, 122]), (7, sv [108, 97, 114, 103])]) (cs := [sv [99, 97, 116], sv [100, 111, 103], sv [114, 117, 110], sv [110, 121], sv [110, 101, 119], sv [102, 111, 120], sv [122, 122], sv [108, 97, 114, 103]]) (xs := [([99, 97, 116] : Str), ([100, 111, 103] : Str), ([114, 117, 110] : Str), ([110, 121] : Str), ([110, 101, 119] : Str), ([102, 111, 120] : Str), ([122, 122] : Str), ([108, 97, 114, 103] : Str)]) wn rfl Tryz.underlying23 tf9 rfl rfl rfl (by kernel_rfl) rfl rfl (lit_cons (u := sv [99, 97, 116]) (z := ([99, 97, 116] : Str)) ⟨rfl, (by decide : ([99, 97, 116] : Str).length ≤ maxLen)⟩ (lit_cons (u := sv [100, 111, 103]) (z := ([100, 111, 103] : Str)) ⟨rfl, (by decide : ([100, 111, 103] : Str).length ≤ maxLen)⟩ (lit_cons (u := sv [114, 117, 110]) (z := ([114, 117, 110] : Str)) ⟨rfl, (by decide : ([114, 117, 110] : Str).length ≤ maxLen)⟩ (lit_cons (u := sv [110, 121]) (z := ([110, 121] : Str)) ⟨rfl, (by decide : ([110, 121] : Str).length ≤ maxLen)⟩ (lit_cons (u := sv [110, 101, 119]) (z := ([110, 101, 119] : Str)) ⟨rfl, (by decide : ([110, 101, 119] : Str).length ≤ maxLen)⟩ (lit_cons (u := sv [102, 111, 120]) (z := ([102, 111, 120] : Str)) ⟨rfl, (by decide : ([102, 111, 120] : Str).length ≤ maxLen)⟩ (lit_cons (u := sv [122, 122]) (z := ([122, 122] : Str)) ⟨rfl, (by decide : ([122, 122] : Str).length ≤ maxLen)⟩ (lit_cons (u := sv [108, 97, 114, 103]) (z := ([108, 97, 114, 103] : Str)) ⟨rfl, (by decide : ([108, 97, 114, 103] : Str).length ≤ maxLen)⟩ lit_nil)))))))) hS125 ?_
  intro a126 w127 K128 hl129 hs130 hS131
  refine wl_nil (qe_held (listed' := #[true, true, true, true, true, true, false, false, false, false, false]) rfl ⟨⟨hS131.hasK (hS117.le.trans hl129), hS131.hasObj (.tail _ (.tail _ (.tail _ (.head _)))), hS131.hasObj (.tail _ (.tail _ (.head _)))⟩, (fun _ => trivial), by decide⟩ ?_)
  refine wg_one (i := 6) (by kernel_rfl) rfl ?_
  have hS132 : SH _ _ _ _ _ [_, _, _, _, _, _, _, _, _] := SH.front (p := [_]) hS131
  refine wl_call wn rfl (rt_call (vs := [.pointer (some ⟨g19, 0, none⟩), .slice a126 8 8]) co46 rfl) ((ok_spec_l30Rd_of F) (SH.enter (Lin := [_]) hS132) (SliceAt.mono hl129 hs122) hr123 hs130 hx94) ?_
  rintro e142 w134 ⟨a137, n138, c139, K133, rfl, hS135, hl136, hs140, hr141⟩
  refine ⟨_, rfl, ?_⟩
  have hS143 : SH _ _ _ _ _ [_, _, _, _, _, _, _, _, _] := SH.call (Lin := [_]) hS132 hS135
  refine wl_nil (qe_held (listed' := #[true, true, true, true, true, true, true, false, false, false, false]) rfl ⟨⟨hS143.hasK ((hS117.le.trans hl129).trans hS135.le), hS143.hasObj (.tail _ (.tail _ (.tail _ (.head _)))), hS143.hasObj (.tail _ (.tail _ (.head _)))⟩, (fun _ => trivial), by decide⟩ ?_)
  refine wg_one (i := 7) (by kernel_rfl) rfl ?_
  have hS144 : SH _ _ _ _ _ [_, _, _, _, _, _, _, _, _] := SH.front (p := [_, _, _, _, _, _, _, _]) hS143
  refine wl_store (cs' := [.slice a33 n34 c35, .slice a37 n38 c39]) (v := .agg #[.slice a33 n34 c35, .slice a37 n38 c39]) wn tf26 rfl rfl rfl (by simp [Value.cells, Value.oneCell']) hS144 rfl rfl ?_
  intro w145 hS146
  refine wl_nil (qe_held (listed' := #[true, true, true, true, true, true, true, true, false, false, false]) rfl ⟨⟨hS146.hasK ((hS117.le.trans hl129).trans hS135.le), hS146.hasObj (.tail _ (.tail _ (.tail _ (.tail _ (.head _))))), hS146.hasObj (.tail _ (.tail _ (.tail _ (.head _))))⟩, (fun _ => trivial), by decide⟩ ?_)
  refine wg_one (i := 8) (by kernel_rfl) rfl ?_
  have hS147 : SH _ _ _ _ _ [_, _, _, _, _, _, _, _, _] := SH.front (p := [_, _, _, _, _, _, _, _]) hS146
  refine wl_store (cs' := [.slice a41 n42 c43, .slice a45 n46 c47]) (v := .agg #[.slice a41 n42 c43, .slice a45 n46 c47]) wn tf30 rfl rfl rfl (by simp [Value.cells, Value.oneCell']) hS147 rfl rfl ?_
  intro w148 hS149
  refine wl_nil (qe_held (listed' := #[true, true, true, true, true, true, true, true, true, false, false]) rfl ⟨⟨hS149.hasK ((hS117.le.trans hl129).trans hS135.le), hS149.hasObj (.tail _ (.tail _ (.tail _ (.tail _ (.tail _ (.head _)))))), hS149.hasObj (.tail _ (.tail _ (.tail _ (.tail _ (.head _)))))⟩, (fun _ => trivial), by decide⟩ ?_)
  refine wg_val (i := 9) (listed' := #[true, true, true, true, true, true, true, true, true, true, false]) (fun _ => True) rfl (by kernel_rfl) (pk_then pk_body) (by kernel_rfl) rfl (by kernel_rfl) (by kernel_rfl) rfl (.inl fun _ _ => trivial) ⟨⟨hS149.hasK ((hS117.le.trans hl129).trans hS135.le), hS149.hasObj (.tail _ (.tail _ (.tail _ (.tail _ (.tail _ (.head _)))))), hS149.hasObj (.tail _ (.tail _ (.tail _ (.tail _ (.head _)))))⟩, (fun _ => trivial), by decide⟩ wn rfl (fun _ _ => (rv_assign rfl)) ?_
  refine wg_val (i := 10) (listed' := #[true, true, true, true, true, true, true, true, true, true, true]) (fun _ => True) rfl (by kernel_rfl) (pk_then pk_body) (by kernel_rfl) rfl (by kernel_rfl) (by kernel_rfl) rfl (.inl fun _ _ => trivial) ⟨⟨hS149.hasK ((hS117.le.trans hl129).trans hS135.le), hS149.hasObj (.tail _ (.tail _ (.tail _ (.tail _ (.tail _ (.head _)))))), hS149.hasObj (.tail _ (.tail _ (.tail _ (.tail _ (.head _)))))⟩, (fun _ => trivial), by decide⟩ wn rfl (fun _ _ => (rv_assign rfl)) ?_
  refine wg_done (by kernel_rfl) ?_
  refine qe_seq ?_
  refine wc_ret ?_
  obtain rfl := oi h95
  have hS150 : SH _ _ _ _ _ [_, _, _] := SH.sublist hS149 (.cons _ (.cons _ (.cons _ (.cons _ (.cons _ (.cons _ (.cons_cons _ (.cons_cons _ (.cons_cons _ .slnil)))))))))
  exact qe_ret (vs := [_, _, _, _]) Tryz.results9 ⟨⟨_, _, rfl, run_loadVar_at tf26 (cs := [.slice a33 n34 c35, .slice a37 n38 c39]) (fun j c e => by rw [Nat.zero_add, hS149.mem_obj (.tail _ (.head _))]; exact e) (.inl ⟨rfl, rfl, rfl⟩)⟩, ⟨_, _, rfl, run_loadVar_at tf30 (cs := [.slice a41 n42 c43, .slice a45 n46 c47]) (fun j c e => by rw [Nat.zero_add, hS149.mem_obj (.head _)]; exact e) (.inl ⟨rfl, rfl, rfl⟩)⟩, rfl, rfl, trivial⟩ ⟨a33, n34, c35, a37, n38, c39, a41, n42, c43, a45, n46, c47, K133, rfl, hS150, (SliceAt.mono ((hS117.le.trans hl129).trans hS135.le) hs36), (SliceAt.mono ((hS117.le.trans hl129).trans hS135.le) hs40), (SliceAt.mono ((hS117.le.trans hl129).trans hS135.le) hs44), (SliceAt.mono ((hS117.le.trans hl129).trans hS135.le) hs48), hl118, hl136⟩
 ·refine wl_buildSlice (t := tStr) (n := 8) (pv := [(0, sv [99, 97, 116]), (1, sv [100, 111, 103]), (2, sv [114, 117, 110]), (3, sv [110, 121]), (4, sv [110, 101, 119]), (5, sv [102, 111, 120]), (6, sv [122, 122]), (7, sv [108, 97, 114, 103])]) (cs := [sv [99, 97, 116], sv [100, 111, 103], sv [114, 117, 110], sv [110, 121], sv [110, 101, 119], sv [102, 111, 120], sv [122, 122], sv [108, 97, 114, 103]]) (xs := [([99, 97, 116] : Str), ([100, 111, 103] : Str), ([114, 117, 110] : Str), ([110, 121] : Str), ([110, 101, 119] : Str), ([102, 111, 120] : Str), ([122, 122] : Str), ([108, 97, 114, 103] : Str)]) wn rfl Tryz.underlying23 tf9 rfl rfl rfl (by kernel_rfl) rfl rfl (lit_cons (u := sv [99, 97, 116]) (z := ([99, 97, 116] : Str)) ⟨rfl, (by decide : ([99, 97, 116] : Str).length ≤ maxLen)⟩ (lit_cons (u := sv [100, 111, 103]) (z := ([100, 111, 103] : Str)) ⟨rfl, (by decide : ([100, 111, 103] : Str).length ≤ maxLen)⟩ (lit_cons (u := sv [114, 117, 110]) (z := ([114, 117, 110] : Str)) ⟨rfl, (by decide : ([114, 117, 110] : Str).length ≤ maxLen)⟩ (lit_cons (u := sv [110, 121]) (z := ([110, 121] : Str)) ⟨rfl, (by decide : ([110, 121] : Str).length ≤ maxLen)⟩ (lit_cons (u := sv [110, 101, 119]) (z := ([110, 101, 119] : Str)) ⟨rfl, (by decide : ([110, 101, 119] : Str).length ≤ maxLen)⟩ (lit_cons (u := sv [102, 111, 120]) (z := ([102, 111, 120] : Str)) ⟨rfl, (by decide : ([102, 111, 120] : Str).length ≤ maxLen)⟩ (lit_cons (u := sv [122, 122]) (z := ([122, 122] : Str)) ⟨rfl, (by decide : ([122, 122] : Str).length ≤ maxLen)⟩ (lit_cons (u := sv [108, 97, 114, 103]) (z := ([108, 97, 114, 103] : Str)) ⟨rfl, (by decide : ([108, 97, 114, 103] : Str).length ≤ maxLen)⟩ lit_nil)))))))) hS71 ?_
  intro a151 w152 K153 hl154 hs155 hS156
  refine wl_nil (qe_held (listed' := #[true, true, true, false, true, true, false, false, false, false, false]) rfl ⟨⟨hS156.hasK hl154, hS156.hasObj (.tail _ (.tail _ (.head _))), hS156.hasObj (.tail _ (.head _))⟩, (fun _ => trivial), by decide⟩ ?_)
  refine wg_one (i := 3) (by kernel_rfl) rfl ?_
  have hS157 : SH _ _ _ _ _ [_, _, _, _, _, _, _, _, _] := SH.front (p := [_, _, _, _, _, _]) hS156
  refine wl_call wn rfl (rt_call (vs := [.pointer (some ⟨g19, 0, none⟩)]) co45 rfl) ((ok_spec_l30Field F) (SH.enter (Lin := [_]) hS157) (SliceAt.mono hl154 hs52) hr53 hx73) ?_
  rintro e167 w159 ⟨a162, n163, c164, K158, rfl, hS160, hl161, hs165, hr166⟩
  refine ⟨_, rfl, ?_⟩
  have hS168 : SH _ _ _ _ _ [_, _, _, _, _, _, _, _, _] := SH.call (Lin := [_]) hS157 hS160
  refine wl_nil (qe_held (listed' := #[true, true, true, true, true, true, false, false, false, false, false]) rfl ⟨⟨hS168.hasK (hl154.trans hS160.le), hS168.hasObj (.tail _ (.tail _ (.tail _ (.head _)))), hS168.hasObj (.tail _ (.tail _ (.head _)))⟩, (fun _ => trivial), by decide⟩ ?_)
  refine wg_one (i := 6) (by kernel_rfl) rfl ?_
  refine wl_call wn rfl (rt_call (vs := [.pointer (some ⟨g19, 0, none⟩), .slice a151 8 8]) co46 rfl) ((ok_spec_l30Rd_of F) (SH.enter (Lin := [_]) hS168) hs165 hr166 (SliceAt.mono hS160.le hs155) hx94) ?_
  rintro e178 w170 ⟨a173, n174, c175, K169, rfl, hS171, hl172, hs176, hr177⟩
  refine ⟨_, rfl, ?_⟩
  have hS179 : SH _ _ _ _ _ [_, _, _, _, _, _, _, _, _] := SH.call (Lin := [_]) hS168 hS171
  refine wl_nil (qe_held (listed' := #[true, true, true, true, true, true, true, false, false, false, false]) rfl ⟨⟨hS179.hasK ((hl154.trans hS160.le).trans hS171.le), hS179.hasObj (.tail _ (.tail _ (.tail _ (.head _)))), hS179.hasObj (.tail _ (.tail _ (.head _)))⟩, (fun _ => trivial), by decide⟩ ?_)
  refine wg_one (i := 7) (by kernel_rfl) rfl ?_
  have hS180 : SH _ _ _ _ _ [_, _, _, _, _, _, _, _, _] := SH.front (p := [_, _, _, _, _, _, _, _]) hS179
  refine wl_store (cs' := [.slice a33 n34 c35, .slice a37 n38 c39]) (v := .agg #[.slice a33 n34 c35, .slice a37 n38 c39]) wn tf26 rfl rfl rfl (by simp [Value.cells, Value.oneCell']) hS180 rfl rfl ?_
  intro w181 hS182
  refine wl_nil (qe_held (listed' := #[true, true, true, true, true, true, true, true, false, false, false]) rfl ⟨⟨hS182.hasK ((hl154.trans hS160.le).trans hS171.le), hS182.hasObj (.tail _ (.tail _ (.tail _ (.tail _ (.head _))))), hS182.hasObj (.tail _ (.tail _ (.tail _ (.head _))))⟩, (fun _ => trivial), by decide⟩ ?_)
  refine wg_one (i := 8) (by kernel_rfl) rfl ?_
  have hS183 : SH _ _ _ _ _ [_, _, _, _, _, _, _, _, _] := SH.front (p := [_, _, _, _, _, _, _, _]) hS182
  refine wl_store (cs' := [.slice a41 n42 c43, .slice a45 n46 c47]) (v := .agg #[.slice a41 n42 c43, .slice a45 n46 c47]) wn tf30 rfl rfl rfl (by simp [Value.cells, Value.oneCell']) hS183 rfl rfl ?_
  intro w184 hS185
  refine wl_nil (qe_held (listed' := #[true, true, true, true, true, true, true, true, true, false, false]) rfl ⟨⟨hS185.hasK ((hl154.trans hS160.le).trans hS171.le), hS185.hasObj (.tail _ (.tail _ (.tail _ (.tail _ (.tail _ (.head _)))))), hS185.hasObj (.tail _ (.tail _ (.tail _ (.tail _ (.head _)))))⟩, (fun _ => trivial), by decide⟩ ?_)
  refine wg_val (i := 9) (listed' := #[true, true, true, true, true, true, true, true, true, true, false]) (fun _ => True) rfl (by kernel_rfl) (pk_then pk_body) (by kernel_rfl) rfl (by kernel_rfl) (by kernel_rfl) rfl (.inl fun _ _ => trivial) ⟨⟨hS185.hasK ((hl154.trans hS160.le).trans hS171.le), hS185.hasObj (.tail _ (.tail _ (.tail _ (.tail _ (.tail _ (.head _)))))), hS185.hasObj (.tail _ (.tail _ (.tail _ (.tail _ (.head _)))))⟩, (fun _ => trivial), by decide⟩ wn rfl (fun _ _ => (rv_assign rfl)) ?_
  refine wg_val (i := 10) (listed' := #[true, true, true, true, true, true, true, true, true, true, true]) (fun _ => True) rfl (by kernel_rfl) (pk_then pk_body) (by kernel_rfl) rfl (by kernel_rfl) (by kernel_rfl) rfl (.inl fun _ _ => trivial) ⟨⟨hS185.hasK ((hl154.trans hS160.le).trans hS171.le), hS185.hasObj (.tail _ (.tail _ (.tail _ (.tail _ (.tail _ (.head _)))))), hS185.hasObj (.tail _ (.tail _ (.tail _ (.tail _ (.head _)))))⟩, (fun _ => trivial), by decide⟩ wn rfl (fun _ _ => (rv_assign rfl)) ?_
  refine wg_done (by kernel_rfl) ?_
  refine qe_seq ?_
  refine wc_ret ?_
  obtain rfl := oi h95
  have hS186 : SH _ _ _ _ _ [_, _, _] := SH.sublist hS185 (.cons _ (.cons _ (.cons _ (.cons _ (.cons _ (.cons _ (.cons_cons _ (.cons_cons _ (.cons_cons _ .slnil)))))))))
  exact qe_ret (vs := [_, _, _, _]) Tryz.results9 ⟨⟨_, _, rfl, run_loadVar_at tf26 (cs := [.slice a33 n34 c35, .slice a37 n38 c39]) (fun j c e => by rw [Nat.zero_add, hS185.mem_obj (.tail _ (.head _))]; exact e) (.inl ⟨rfl, rfl, rfl⟩)⟩, ⟨_, _, rfl, run_loadVar_at tf30 (cs := [.slice a41 n42 c43, .slice a45 n46 c47]) (fun j c e => by rw [Nat.zero_add, hS185.mem_obj (.head _)]; exact e) (.inl ⟨rfl, rfl, rfl⟩)⟩, rfl, rfl, trivial⟩ ⟨a33, n34, c35, a37, n38, c39, a41, n42, c43, a45, n46, c47, K169, rfl, hS186, (SliceAt.mono ((hl154.trans hS160.le).trans hS171.le) hs36), (SliceAt.mono ((hl154.trans hS160.le).trans hS171.le) hs40), (SliceAt.mono ((hl154.trans hS160.le).trans hS171.le) hs44), (SliceAt.mono ((hl154.trans hS160.le).trans hS171.le) hs48), hl161, hl172⟩

theorem ok_impl_within (F : Nat) {w : World} {K : KMap} {p0_n : Int} {p1_low : Int} {p2_high : Int} {r : Bool} (hS : SH w K [] w K []) (hr1 : rng64 p0_n) (hr2 : rng64 p1_low) (hr3 : rng64 p2_high) (hm : M.impl_within F p0_n p1_low p2_high = some r) :
  Calls Tryz.prog 98 #[.int .i64 p0_n, .int .i64 p1_low, .int .i64 p2_high] w fun e w' => ∃ (K' : KMap), e = .returned (.bool r) ∧ SH w K [] w' K' [] := by
 rw [M.impl_within] at hm
 refine calls_in Tryz.func98 rfl Tryz.ntmps98 rfl ?_
 refine sr ?_
 refine wl_val wn rfl (rv_assign (v := .bool false) rfl) ?_
 refine nr ?_
 refine vm rfl rfl ?_
 refine vm rfl rfl ?_
 refine wl_val wn rfl (rv_geq rfl rfl) ?_
 refine vm rfl rfl ?_
 rcases bool_tf (decide (p1_low ≤ p0_n)) with hb4 | hb4
 ·have h5 := cond_t hb4 hm
  refine wl_val (wg rfl rfl hb4) rfl (rv_move rfl) ?_
  refine wl_val (wg rfl rfl hb4) rfl (rv_move rfl) ?_
  refine wl_val (wg rfl rfl hb4) rfl (rv_leq rfl rfl) ?_
  refine wl_val wn rfl (rv_pick_t rfl hb4 rfl) ?_
  refine va rfl rfl ?_
  refine nq ?_
  refine wc_ret ?_
  obtain rfl := oi h5
  exact qe_ret (vs := [_]) Tryz.results98 ⟨rfl, trivial⟩ ⟨K, rfl, hS⟩
 ·have h5 := cond_f hb4 hm
  refine wl_un (ug rfl rfl hb4) rfl ?_
  refine wl_un (ug rfl rfl hb4) rfl ?_
  refine wl_un (ug rfl rfl hb4) rfl ?_
  refine wl_val wn rfl (rv_pick_f (v := .bool false) rfl hb4 rfl) ?_
  refine va rfl rfl ?_
  refine nq ?_
  refine wc_ret ?_
  obtain rfl := oi h5
  exact qe_ret (vs := [_]) Tryz.results98 ⟨rfl, trivial⟩ ⟨K, rfl, hS⟩

theorem ok_impl_wordByte (F : Nat) {w : World} {K : KMap} {p0_b : UInt8} {r : Bool} (hS : SH w K [] w K []) (hm : M.impl_wordByte F p0_b = some r) :
  Calls Tryz.prog 102 #[iv8 p0_b] w fun e w' => ∃ (K' : KMap), e = .returned (.bool r) ∧ SH w K [] w' K' [] := by
 rw [M.impl_wordByte] at hm
 refine calls_in Tryz.func102 rfl Tryz.ntmps102 rfl ?_
 refine sr ?_
 refine wl_val wn rfl (rv_assign (v := .bool false) rfl) ?_
 refine nr ?_
 refine vm rfl rfl ?_
 refine wl_val wn rfl (rv_bge (b := (97 : UInt8)) rfl rfl) ?_
 refine vm rfl rfl ?_
 rcases bool_tf (decide ((97 : UInt8) ≤ p0_b)) with hb1 | hb1
 ·have h2 := cond_t hb1 hm
  refine wl_val (wg rfl rfl hb1) rfl (rv_move rfl) ?_
  refine wl_val (wg rfl rfl hb1) rfl (rv_ble (b := (122 : UInt8)) rfl rfl) ?_
  refine wl_val wn rfl (rv_pick_t rfl hb1 rfl) ?_
  refine vm rfl rfl ?_
  rcases bool_tf (decide (p0_b ≤ (122 : UInt8))) with hb3 | hb3
  ·have h4 := cond_t hb3 h2
   refine wl_un (ug rfl rfl hb3) rfl ?_
   refine wl_un (ug rfl rfl hb3) rfl ?_
   refine wl_un (ug rfl rfl hb3) rfl ?_
   refine wl_un (uu rfl rfl) rfl ?_
   refine wl_un (uu rfl rfl) rfl ?_
   refine wl_un (ug rfl rfl hb3) rfl ?_
   refine wl_val wn rfl (rv_pick_t (v := .bool true) rfl hb3 rfl) ?_
   refine va rfl rfl ?_
   refine nq ?_
   refine wc_ret ?_
   obtain rfl := oi h4
   exact qe_ret (vs := [_]) Tryz.results102 ⟨rfl, trivial⟩ ⟨K, rfl, hS⟩
  ·have h4 := cond_f hb3 h2
   refine wl_val (wg rfl rfl hb3) rfl (rv_move rfl) ?_
   refine wl_val (wg rfl rfl hb3) rfl (rv_bge (b := (48 : UInt8)) rfl rfl) ?_
   refine wl_val (wg rfl rfl hb3) rfl (rv_move rfl) ?_
   rcases bool_tf (decide ((48 : UInt8) ≤ p0_b)) with hb5 | hb5
   ·have h6 := cond_t hb5 h4
    refine wl_val (wg rfl rfl hb5) rfl (rv_move rfl) ?_
    refine wl_val (wg rfl rfl hb5) rfl (rv_ble (b := (57 : UInt8)) rfl rfl) ?_
    refine wl_val (wg rfl rfl hb3) rfl (rv_pick_t rfl hb5 rfl) ?_
    refine wl_val wn rfl (rv_pick_f rfl hb3 rfl) ?_
    refine va rfl rfl ?_
    refine nq ?_
    refine wc_ret ?_
    obtain rfl := oi h6
    exact qe_ret (vs := [_]) Tryz.results102 ⟨rfl, trivial⟩ ⟨K, rfl, hS⟩
   ·have h6 := cond_f hb5 h4
    refine wl_un (ug rfl rfl hb5) rfl ?_
    refine wl_un (ug rfl rfl hb5) rfl ?_
    refine wl_val (wg rfl rfl hb3) rfl (rv_pick_f (v := .bool false) rfl hb5 rfl) ?_
    refine wl_val wn rfl (rv_pick_f rfl hb3 rfl) ?_
    refine va rfl rfl ?_
    refine nq ?_
    refine wc_ret ?_
    obtain rfl := oi h6
    exact qe_ret (vs := [_]) Tryz.results102 ⟨rfl, trivial⟩ ⟨K, rfl, hS⟩
 ·have h2 := cond_f hb1 hm
  refine wl_un (ug rfl rfl hb1) rfl ?_
  refine wl_un (ug rfl rfl hb1) rfl ?_
  refine wl_val wn rfl (rv_pick_f (v := .bool false) rfl hb1 rfl) ?_
  refine vm rfl rfl ?_
  refine wl_val (wg rfl rfl rfl) rfl (rv_move rfl) ?_
  refine wl_val (wg rfl rfl rfl) rfl (rv_bge (b := (48 : UInt8)) rfl rfl) ?_
  refine wl_val (wg rfl rfl rfl) rfl (rv_move rfl) ?_
  rcases bool_tf (decide ((48 : UInt8) ≤ p0_b)) with hb7 | hb7
  ·have h8 := cond_t hb7 h2
   refine wl_val (wg rfl rfl hb7) rfl (rv_move rfl) ?_
   refine wl_val (wg rfl rfl hb7) rfl (rv_ble (b := (57 : UInt8)) rfl rfl) ?_
   refine wl_val (wg rfl rfl rfl) rfl (rv_pick_t rfl hb7 rfl) ?_
   refine wl_val wn rfl (rv_pick_f rfl rfl rfl) ?_
   refine va rfl rfl ?_
   refine nq ?_
   refine wc_ret ?_
   obtain rfl := oi h8
   exact qe_ret (vs := [_]) Tryz.results102 ⟨rfl, trivial⟩ ⟨K, rfl, hS⟩
  ·have h8 := cond_f hb7 h2
   refine wl_un (ug rfl rfl hb7) rfl ?_
   refine wl_un (ug rfl rfl hb7) rfl ?_
   refine wl_val (wg rfl rfl rfl) rfl (rv_pick_f (v := .bool false) rfl hb7 rfl) ?_
   refine wl_val wn rfl (rv_pick_f rfl rfl rfl) ?_
   refine va rfl rfl ?_
   refine nq ?_
   refine wc_ret ?_
   obtain rfl := oi h8
   exact qe_ret (vs := [_]) Tryz.results102 ⟨rfl, trivial⟩ ⟨K, rfl, hS⟩
end Go.Proofs.YtdcmmhjhffcnhaaGreat
