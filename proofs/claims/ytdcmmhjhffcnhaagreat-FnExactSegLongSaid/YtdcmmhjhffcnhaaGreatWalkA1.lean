/-
 Walks of the functions. Printed by gen.py.
-/
import Derived.Test.YtdcmmhjhffcnhaaGreatWalkA0
set_option linter.unusedVariables false
set_option maxRecDepth 100000
namespace Go.Proofs.YtdcmmhjhffcnhaaGreat
open Go Go.Fk Go.RowKit

theorem ok_laws_eqPostS (F : Nat) {w : World} {K : KMap} {a1 : Option Addr} {n2 c3 : Nat} {a5 : Option Addr} {n6 c7 : Nat} {p0_a : List GPost} {p1_b : List GPost} {r : Bool} (hS : SH w K [] w K []) (hs4 : SliceAt tGPost K a1 n2 c3 p0_a) (hs8 : SliceAt tGPost K a5 n6 c7 p1_b) (hm : M.laws_eqPostS F p0_a p1_b = some r) :
  Calls Tryz.prog 40 #[.slice a1 n2 c3, .slice a5 n6 c7] w fun e w' => ∃ (K' : KMap), e = .returned (.bool r) ∧ SH w K [] w' K' [] := by
 rw [M.laws_eqPostS] at hm
 refine calls_in Tryz.func40 rfl Tryz.ntmps40 rfl ?_
 refine sr ?_
 refine wl_val wn rfl (rv_assign (v := .bool false) rfl) ?_
 refine nsr ?_
 refine vm rfl rfl ?_
 refine wl_val wn rfl (rv_len (t := tGPost) Tryz.underlying33 rfl hs4) ?_
 refine vm rfl rfl ?_
 refine wl_val wn rfl (rv_len (t := tGPost) Tryz.underlying33 rfl hs8) ?_
 refine wl_val wn rfl (rv_neq rfl rfl) ?_
 refine nq ?_
 refine wc_cond rfl (fun hb9 => ?_) (fun hb9 => ?_)
 ·have h10 := cond_t hb9 hm
  refine sr ?_
  refine wl_val wn rfl (rv_assign (v := .bool false) rfl) ?_
  refine nq ?_
  refine rr ?_
  obtain rfl := oi h10
  exact qe_ret (vs := [_]) Tryz.results40 ⟨rfl, trivial⟩ ⟨K, rfl, hS⟩
 ·have h10 := cond_f hb9 hm
  refine wc_skip ?_
  refine qs ?_
  refine sr ?_
  refine wl_val wn rfl (rv_assign (v := .int .i64 0) rfl) ?_
  refine nq ?_
  obtain ⟨o11, h12, h13⟩ := ob h10
  refine wc_cutg (fun E' w' => ∃ (s14 : Unit) (K15 : KMap), o11 = .inl s14 ∧ E' = [] ∧ SH w K [] w' K15 [] ∧ KLe K K15) ?_ ?_
  ·refine wc_block ?_
   obtain ⟨r20, h21, h22⟩ := ob h12
   refine wc_while' (fun (s19 : Int) E' w' => ∃ (K23 : KMap), E' = [(0, .slice a1 n2 c3), (1, .slice a5 n6 c7), (5, .int .i64 s19)] ∧ SH w K [] w' K23 [] ∧ KLe K K23 ∧ rng64 s19) h21 ⟨K, rfl, hS, (KLe.refl _), (by decide : rng64 0)⟩ ⟨rfl, rfl, rfl, trivial⟩ ?_
   rintro s19 _ w25 r28 h29 hx30 ⟨K23, rfl, hS26, hl24, hr27⟩
   refine wc_seq ?_
   refine sr ?_
   refine vm rfl rfl ?_
   refine vm rfl rfl ?_
   refine wl_val wn rfl (rv_len (t := tGPost) Tryz.underlying33 rfl (SliceAt.mono hl24 hs4)) ?_
   refine wl_val wn rfl (rv_lss rfl rfl) ?_
   refine nq ?_
   refine wc_cond rfl (fun hb31 => ?_) (fun hb31 => ?_)
   ·have h32 := cond_t hb31 h29
    refine wc_skip ?_
    refine qs ?_
    refine wc_block ?_
    refine wc_seq ?_
    refine wc_quiet mixed (by kernel_rfl) hS26 ?_
    refine qm rfl rfl ?_
    refine qm rfl rfl ?_
    obtain ⟨x33, hx34, h35⟩ := ob h32
    refine wq_indexAddr (t := tGPost) wn rfl Tryz.underlying33 tf48 rfl rfl (SliceAt.mono hl24 hs4) hx34 ?_
    intro b36 o37 u38 hu39 ha40
    obtain ⟨a42, n43, c44, rfl, hr41, hs45⟩ := hu39
    have ha46 : AtK _ b36 o37 [.int .i64 x33.Doc, .slice a42 n43 c44] := ha40
    refine wq_val wn rfl (rq_loadS (cs := [.int .i64 x33.Doc, .slice a42 n43 c44]) tf48 rfl ha46 rfl) ?_
    refine qm rfl rfl ?_
    refine qm rfl rfl ?_
    obtain ⟨x47, hx48, h49⟩ := ob h35
    refine wq_indexAddr (t := tGPost) wn rfl Tryz.underlying33 tf48 rfl rfl (SliceAt.mono hl24 hs8) hx48 ?_
    intro b50 o51 u52 hu53 ha54
    obtain ⟨a56, n57, c58, rfl, hr55, hs59⟩ := hu53
    have ha60 : AtK _ b50 o51 [.int .i64 x47.Doc, .slice a56 n57 c58] := ha54
    refine wq_val wn rfl (rq_loadS (cs := [.int .i64 x47.Doc, .slice a56 n57 c58]) tf48 rfl ha60 rfl) ?_
    obtain ⟨r61, hx62, h63⟩ := ob h49
    refine wq_call (v := .bool r61) wn rfl (fun _ => rt_call (vs := [.agg #[.int .i64 x33.Doc, .slice a42 n43 c44], .agg #[.int .i64 x47.Doc, .slice a56 n57 c58]]) co91 rfl) (fun w66 ⟨K64, hS65, hl67⟩ => ((ok_laws_eqPost F) hS65.enter0 hr41 (SliceAt.mono hl67 hs45) hr55 (SliceAt.mono hl67 hs59) hx62).mono fun e w' ⟨K', he, hS'⟩ => ⟨he, K', hS65.call0 hS', hl67.trans hS'.le⟩) ?_
    refine wq_val wn rfl (fun _ _ => (rv_not rfl)) ?_
    refine wq_nil ?_
    rintro w69 ⟨K68, hS70, hl71⟩
    refine qe_seq ?_
    refine wc_cond rfl (fun hb72 => ?_) (fun hb72 => ?_)
    ·have h73 := cond_t hb72 h63
     refine sr ?_
     refine wl_val wn rfl (rv_assign (v := .bool false) rfl) ?_
     refine nq ?_
     refine wc_ret ?_
     refine qe_block_ret ?_
     refine qe_then_ret ?_
     refine qe_then_ret ?_
     obtain rfl := oi h73
     have e74 := hx30 _ rfl
     subst e74
     refine qe_block_ret ?_
     refine qe_then_ret ?_
     obtain rfl := oi h22
     refine qe_then_ret ?_
     obtain rfl := oi h13
     exact qe_ret (vs := [_]) Tryz.results40 ⟨rfl, trivial⟩ ⟨K68, rfl, hS70⟩
    ·have h73 := cond_f hb72 h63
     refine wc_skip ?_
     refine qe_block ?_
     refine qe_seq ?_
     refine wc_region ?_
     refine vm rfl rfl ?_
     refine wl_val wn rfl (rv_add rfl rfl) ?_
     refine va rfl rfl ?_
     refine wl_nil ?_
     obtain rfl := oi h73
     exact qe_mid' ⟨_, rfl, K68, rfl, hS70, (hl24.trans hl71), (w64_rng _)⟩ ⟨rfl, rfl, rfl, trivial⟩
   ·have h32 := cond_f hb31 h29
    refine wc_exit ?_
    refine qe_then_exit ?_
    refine qe_then_exit ?_
    obtain rfl := oi h32
    have e75 := hx30 _ rfl
    subst e75
    refine qe_block_eq ?_
    obtain rfl := oi h22
    exact qe_mid' ⟨_, K23, rfl, rfl, hS26, hl24⟩ trivial
  ·rintro _ w17 ⟨s14, K15, rfl, rfl, hS18, hl16⟩
   refine qr ?_
   refine wl_val wn rfl (rv_assign (v := .bool true) rfl) ?_
   refine nq ?_
   refine wc_ret ?_
   obtain rfl := oi h13
   exact qe_ret (vs := [_]) Tryz.results40 ⟨rfl, trivial⟩ ⟨K15, rfl, hS18⟩

theorem ok_laws_eqEntry (F : Nat) {w : World} {K : KMap} {a3 : Option Addr} {n4 c5 : Nat} {a9 : Option Addr} {n10 c11 : Nat} {p0_a : GEntry} {p1_b : GEntry} {r : Bool} (hS : SH w K [] w K []) (hl1 : p0_a.Field.length ≤ maxLen) (hl2 : p0_a.Term.length ≤ maxLen) (hs6 : SliceAt tGPost K a3 n4 c5 p0_a.Posts) (hl7 : p1_b.Field.length ≤ maxLen) (hl8 : p1_b.Term.length ≤ maxLen) (hs12 : SliceAt tGPost K a9 n10 c11 p1_b.Posts) (hm : M.laws_eqEntry F p0_a p1_b = some r) :
  Calls Tryz.prog 127 #[.agg #[sv p0_a.Field, sv p0_a.Term, .slice a3 n4 c5], .agg #[sv p1_b.Field, sv p1_b.Term, .slice a9 n10 c11]] w fun e w' => ∃ (K' : KMap), e = .returned (.bool r) ∧ SH w K [] w' K' [] := by
 rw [M.laws_eqEntry] at hm
 refine calls_in Tryz.func127 rfl Tryz.ntmps127 rfl ?_
 refine sr ?_
 refine wl_box wn rfl rfl hS ?_
 intro g13 w14 hS15
 have hS16 : SH _ _ _ _ _ [obj g13 [sv p0_a.Field, sv p0_a.Term, .slice a3 n4 c5] 94] := hS15
 refine wl_box wn rfl rfl hS16 ?_
 intro g17 w18 hS19
 have hS20 : SH _ _ _ _ _ [obj g17 [sv p1_b.Field, sv p1_b.Term, .slice a9 n10 c11] 94, _] := hS19
 refine wl_val wn rfl (rv_assign (v := .bool false) rfl) ?_
 refine nsr ?_
 refine wl_val wn rfl (rv_fieldAddr ff94_0 rfl) ?_
 refine wl_val wn rfl (rv_loadm1 tf9 rfl (.tail _ (.head _)) hS20 rfl) ?_
 refine wl_val wn rfl (rv_fieldAddr ff94_0 rfl) ?_
 refine wl_val wn rfl (rv_loadm1 tf9 rfl (.head _) hS20 rfl) ?_
 refine wl_val wn rfl (rv_sneq rfl rfl) ?_
 refine nq ?_
 refine wc_cond rfl (fun hb21 => ?_) (fun hb21 => ?_)
 ·have h22 := cond_t hb21 hm
  refine sr ?_
  refine wl_val wn rfl (rv_assign (v := .bool false) rfl) ?_
  refine nq ?_
  refine rr ?_
  obtain rfl := oi h22
  have hS23 : SH _ _ _ _ _ [] := SH.sublist hS20 (.cons _ (.cons _ .slnil))
  exact qe_ret (vs := [_]) Tryz.results127 ⟨rfl, trivial⟩ ⟨K, rfl, hS23⟩
 ·have h22 := cond_f hb21 hm
  refine wc_skip ?_
  refine qs ?_
  refine sr ?_
  refine wl_val wn rfl (rv_fieldAddr ff94_1 rfl) ?_
  refine wl_val wn rfl (rv_loadm1 tf9 rfl (.tail _ (.head _)) hS20 rfl) ?_
  refine wl_val wn rfl (rv_fieldAddr ff94_1 rfl) ?_
  refine wl_val wn rfl (rv_loadm1 tf9 rfl (.head _) hS20 rfl) ?_
  refine wl_val wn rfl (rv_sneq rfl rfl) ?_
  refine nq ?_
  refine wc_cond rfl (fun hb24 => ?_) (fun hb24 => ?_)
  ·have h25 := cond_t hb24 h22
   refine sr ?_
   refine wl_val wn rfl (rv_assign (v := .bool false) rfl) ?_
   refine nq ?_
   refine rr ?_
   obtain rfl := oi h25
   have hS26 : SH _ _ _ _ _ [] := SH.sublist hS20 (.cons _ (.cons _ .slnil))
   exact qe_ret (vs := [_]) Tryz.results127 ⟨rfl, trivial⟩ ⟨K, rfl, hS26⟩
  ·have h25 := cond_f hb24 h22
   refine wc_skip ?_
   refine qs ?_
   refine sr ?_
   refine wl_val wn rfl (rv_fieldAddr ff94_2 rfl) ?_
   refine wl_val wn rfl (rv_loadm1 tf33 rfl (.tail _ (.head _)) hS20 rfl) ?_
   refine wl_val wn rfl (rv_fieldAddr ff94_2 rfl) ?_
   refine wl_val wn rfl (rv_loadm1 tf33 rfl (.head _) hS20 rfl) ?_
   obtain ⟨r27, hx28, h29⟩ := ob h25
   refine wl_call wn rfl (rt_call (vs := [.slice a3 n4 c5, .slice a9 n10 c11]) co40 rfl) ((ok_laws_eqPostS F) hS20.enter0 hs6 hs12 hx28) ?_
   rintro e33 w31 ⟨K30, rfl, hS32⟩
   refine ⟨_, rfl, ?_⟩
   have hS34 : SH _ _ _ _ _ [_, _] := SH.call0 hS20 hS32
   refine wl_val wn rfl (rv_not rfl) ?_
   refine nq ?_
   refine wc_cond rfl (fun hb35 => ?_) (fun hb35 => ?_)
   ·have h36 := cond_t hb35 h29
    refine sr ?_
    refine wl_val wn rfl (rv_assign (v := .bool false) rfl) ?_
    refine nq ?_
    refine rr ?_
    obtain rfl := oi h36
    have hS37 : SH _ _ _ _ _ [] := SH.sublist hS34 (.cons _ (.cons _ .slnil))
    exact qe_ret (vs := [_]) Tryz.results127 ⟨rfl, trivial⟩ ⟨K30, rfl, hS37⟩
   ·have h36 := cond_f hb35 h29
    refine wc_skip ?_
    refine qr ?_
    refine wl_val wn rfl (rv_assign (v := .bool true) rfl) ?_
    refine nq ?_
    refine wc_ret ?_
    obtain rfl := oi h36
    have hS38 : SH _ _ _ _ _ [] := SH.sublist hS34 (.cons _ (.cons _ .slnil))
    exact qe_ret (vs := [_]) Tryz.results127 ⟨rfl, trivial⟩ ⟨K30, rfl, hS38⟩

theorem ok_laws_eqEntryS (F : Nat) {w : World} {K : KMap} {a1 : Option Addr} {n2 c3 : Nat} {a5 : Option Addr} {n6 c7 : Nat} {p0_a : List GEntry} {p1_b : List GEntry} {r : Bool} (hS : SH w K [] w K []) (hs4 : SliceAt tGEntry K a1 n2 c3 p0_a) (hs8 : SliceAt tGEntry K a5 n6 c7 p1_b) (hm : M.laws_eqEntryS F p0_a p1_b = some r) :
  Calls Tryz.prog 76 #[.slice a1 n2 c3, .slice a5 n6 c7] w fun e w' => ∃ (K' : KMap), e = .returned (.bool r) ∧ SH w K [] w' K' [] := by
 rw [M.laws_eqEntryS] at hm
 refine calls_in Tryz.func76 rfl Tryz.ntmps76 rfl ?_
 refine sr ?_
 refine wl_val wn rfl (rv_assign (v := .bool false) rfl) ?_
 refine nsr ?_
 refine vm rfl rfl ?_
 refine wl_val wn rfl (rv_len (t := tGEntry) Tryz.underlying28 rfl hs4) ?_
 refine vm rfl rfl ?_
 refine wl_val wn rfl (rv_len (t := tGEntry) Tryz.underlying28 rfl hs8) ?_
 refine wl_val wn rfl (rv_neq rfl rfl) ?_
 refine nq ?_
 refine wc_cond rfl (fun hb9 => ?_) (fun hb9 => ?_)
 ·have h10 := cond_t hb9 hm
  refine sr ?_
  refine wl_val wn rfl (rv_assign (v := .bool false) rfl) ?_
  refine nq ?_
  refine rr ?_
  obtain rfl := oi h10
  exact qe_ret (vs := [_]) Tryz.results76 ⟨rfl, trivial⟩ ⟨K, rfl, hS⟩
 ·have h10 := cond_f hb9 hm
  refine wc_skip ?_
  refine qs ?_
  refine sr ?_
  refine wl_val wn rfl (rv_assign (v := .int .i64 0) rfl) ?_
  refine nq ?_
  obtain ⟨o11, h12, h13⟩ := ob h10
  refine wc_cutg (fun E' w' => ∃ (s14 : Unit) (K15 : KMap), o11 = .inl s14 ∧ E' = [] ∧ SH w K [] w' K15 [] ∧ KLe K K15) ?_ ?_
  ·refine wc_block ?_
   obtain ⟨r20, h21, h22⟩ := ob h12
   refine wc_while' (fun (s19 : Int) E' w' => ∃ (K23 : KMap), E' = [(0, .slice a1 n2 c3), (1, .slice a5 n6 c7), (5, .int .i64 s19)] ∧ SH w K [] w' K23 [] ∧ KLe K K23 ∧ rng64 s19) h21 ⟨K, rfl, hS, (KLe.refl _), (by decide : rng64 0)⟩ ⟨rfl, rfl, rfl, trivial⟩ ?_
   rintro s19 _ w25 r28 h29 hx30 ⟨K23, rfl, hS26, hl24, hr27⟩
   refine wc_seq ?_
   refine sr ?_
   refine vm rfl rfl ?_
   refine vm rfl rfl ?_
   refine wl_val wn rfl (rv_len (t := tGEntry) Tryz.underlying28 rfl (SliceAt.mono hl24 hs4)) ?_
   refine wl_val wn rfl (rv_lss rfl rfl) ?_
   refine nq ?_
   refine wc_cond rfl (fun hb31 => ?_) (fun hb31 => ?_)
   ·have h32 := cond_t hb31 h29
    refine wc_skip ?_
    refine qs ?_
    refine wc_block ?_
    refine wc_seq ?_
    refine wc_quiet mixed (by kernel_rfl) hS26 ?_
    refine qm rfl rfl ?_
    refine qm rfl rfl ?_
    obtain ⟨x33, hx34, h35⟩ := ob h32
    refine wq_indexAddr (t := tGEntry) wn rfl Tryz.underlying28 tf94 rfl rfl (SliceAt.mono hl24 hs4) hx34 ?_
    intro b36 o37 u38 hu39 ha40
    obtain ⟨a43, n44, c45, rfl, hl41, hl42, hs46⟩ := hu39
    have ha47 : AtK _ b36 o37 [sv x33.Field, sv x33.Term, .slice a43 n44 c45] := ha40
    refine wq_val wn rfl (rq_loadS (cs := [sv x33.Field, sv x33.Term, .slice a43 n44 c45]) tf94 rfl ha47 rfl) ?_
    refine qm rfl rfl ?_
    refine qm rfl rfl ?_
    obtain ⟨x48, hx49, h50⟩ := ob h35
    refine wq_indexAddr (t := tGEntry) wn rfl Tryz.underlying28 tf94 rfl rfl (SliceAt.mono hl24 hs8) hx49 ?_
    intro b51 o52 u53 hu54 ha55
    obtain ⟨a58, n59, c60, rfl, hl56, hl57, hs61⟩ := hu54
    have ha62 : AtK _ b51 o52 [sv x48.Field, sv x48.Term, .slice a58 n59 c60] := ha55
    refine wq_val wn rfl (rq_loadS (cs := [sv x48.Field, sv x48.Term, .slice a58 n59 c60]) tf94 rfl ha62 rfl) ?_
    obtain ⟨r63, hx64, h65⟩ := ob h50
    refine wq_call (v := .bool r63) wn rfl (fun _ => rt_call (vs := [.agg #[sv x33.Field, sv x33.Term, .slice a43 n44 c45], .agg #[sv x48.Field, sv x48.Term, .slice a58 n59 c60]]) co127 rfl) (fun w68 ⟨K66, hS67, hl69⟩ => ((ok_laws_eqEntry F) hS67.enter0 hl41 hl42 (SliceAt.mono hl69 hs46) hl56 hl57 (SliceAt.mono hl69 hs61) hx64).mono fun e w' ⟨K', he, hS'⟩ => ⟨he, K', hS67.call0 hS', hl69.trans hS'.le⟩) ?_
    refine wq_val wn rfl (fun _ _ => (rv_not rfl)) ?_
    refine wq_nil ?_
    rintro w71 ⟨K70, hS72, hl73⟩
    refine qe_seq ?_
    refine wc_cond rfl (fun hb74 => ?_) (fun hb74 => ?_)
    ·have h75 := cond_t hb74 h65
     refine sr ?_
     refine wl_val wn rfl (rv_assign (v := .bool false) rfl) ?_
     refine nq ?_
     refine wc_ret ?_
     refine qe_block_ret ?_
     refine qe_then_ret ?_
     refine qe_then_ret ?_
     obtain rfl := oi h75
     have e76 := hx30 _ rfl
     subst e76
     refine qe_block_ret ?_
     refine qe_then_ret ?_
     obtain rfl := oi h22
     refine qe_then_ret ?_
     obtain rfl := oi h13
     exact qe_ret (vs := [_]) Tryz.results76 ⟨rfl, trivial⟩ ⟨K70, rfl, hS72⟩
    ·have h75 := cond_f hb74 h65
     refine wc_skip ?_
     refine qe_block ?_
     refine qe_seq ?_
     refine wc_region ?_
     refine vm rfl rfl ?_
     refine wl_val wn rfl (rv_add rfl rfl) ?_
     refine va rfl rfl ?_
     refine wl_nil ?_
     obtain rfl := oi h75
     exact qe_mid' ⟨_, rfl, K70, rfl, hS72, (hl24.trans hl73), (w64_rng _)⟩ ⟨rfl, rfl, rfl, trivial⟩
   ·have h32 := cond_f hb31 h29
    refine wc_exit ?_
    refine qe_then_exit ?_
    refine qe_then_exit ?_
    obtain rfl := oi h32
    have e77 := hx30 _ rfl
    subst e77
    refine qe_block_eq ?_
    obtain rfl := oi h22
    exact qe_mid' ⟨_, K23, rfl, rfl, hS26, hl24⟩ trivial
  ·rintro _ w17 ⟨s14, K15, rfl, rfl, hS18, hl16⟩
   refine qr ?_
   refine wl_val wn rfl (rv_assign (v := .bool true) rfl) ?_
   refine nq ?_
   refine wc_ret ?_
   obtain rfl := oi h13
   exact qe_ret (vs := [_]) Tryz.results76 ⟨rfl, trivial⟩ ⟨K15, rfl, hS18⟩

theorem ok_laws_eqSeg (F : Nat) {w : World} {K : KMap} {a1 : Option Addr} {n2 c3 : Nat} {a5 : Option Addr} {n6 c7 : Nat} {a9 : Option Addr} {n10 c11 : Nat} {a13 : Option Addr} {n14 c15 : Nat} {p0_a : GSeg} {p1_b : GSeg} {r : Bool} (hS : SH w K [] w K []) (hs4 : SliceAt tGDoc K a1 n2 c3 p0_a.Docs) (hs8 : SliceAt tGEntry K a5 n6 c7 p0_a.Entries) (hs12 : SliceAt tGDoc K a9 n10 c11 p1_b.Docs) (hs16 : SliceAt tGEntry K a13 n14 c15 p1_b.Entries) (hm : M.laws_eqSeg F p0_a p1_b = some r) :
  Calls Tryz.prog 24 #[.agg #[.slice a1 n2 c3, .slice a5 n6 c7], .agg #[.slice a9 n10 c11, .slice a13 n14 c15]] w fun e w' => ∃ (K' : KMap), e = .returned (.bool r) ∧ SH w K [] w' K' [] := by
 rw [M.laws_eqSeg] at hm
 refine calls_in Tryz.func24 rfl Tryz.ntmps24 rfl ?_
 refine sr ?_
 refine wl_box wn rfl rfl hS ?_
 intro g17 w18 hS19
 have hS20 : SH _ _ _ _ _ [obj g17 [.slice a1 n2 c3, .slice a5 n6 c7] 30] := hS19
 refine wl_box wn rfl rfl hS20 ?_
 intro g21 w22 hS23
 have hS24 : SH _ _ _ _ _ [obj g21 [.slice a9 n10 c11, .slice a13 n14 c15] 30, _] := hS23
 refine wl_val wn rfl (rv_assign (v := .bool false) rfl) ?_
 refine nsr ?_
 refine wl_val wn rfl (rv_fieldAddr ff30_0 rfl) ?_
 refine wl_val wn rfl (rv_loadm1 tf27 rfl (.tail _ (.head _)) hS24 rfl) ?_
 refine wl_val wn rfl (rv_fieldAddr ff30_0 rfl) ?_
 refine wl_val wn rfl (rv_loadm1 tf27 rfl (.head _) hS24 rfl) ?_
 obtain ⟨r25, hx26, h27⟩ := ob hm
 refine wl_call wn rfl (rt_call (vs := [.slice a1 n2 c3, .slice a9 n10 c11]) co26 rfl) ((ok_laws_eqDocS F) hS24.enter0 hs4 hs12 hx26) ?_
 rintro e31 w29 ⟨K28, rfl, hS30⟩
 refine ⟨_, rfl, ?_⟩
 have hS32 : SH _ _ _ _ _ [_, _] := SH.call0 hS24 hS30
 refine wl_val wn rfl (rv_not rfl) ?_
 refine nq ?_
 refine wc_cond rfl (fun hb33 => ?_) (fun hb33 => ?_)
 ·have h34 := cond_t hb33 h27
  refine sr ?_
  refine wl_val wn rfl (rv_assign (v := .bool false) rfl) ?_
  refine nq ?_
  refine rr ?_
  obtain rfl := oi h34
  have hS35 : SH _ _ _ _ _ [] := SH.sublist hS32 (.cons _ (.cons _ .slnil))
  exact qe_ret (vs := [_]) Tryz.results24 ⟨rfl, trivial⟩ ⟨K28, rfl, hS35⟩
 ·have h34 := cond_f hb33 h27
  refine wc_skip ?_
  refine qs ?_
  refine sr ?_
  refine wl_val wn rfl (rv_fieldAddr ff30_1 rfl) ?_
  refine wl_val wn rfl (rv_loadm1 tf28 rfl (.tail _ (.head _)) hS32 rfl) ?_
  refine wl_val wn rfl (rv_fieldAddr ff30_1 rfl) ?_
  refine wl_val wn rfl (rv_loadm1 tf28 rfl (.head _) hS32 rfl) ?_
  obtain ⟨r36, hx37, h38⟩ := ob h34
  refine wl_call wn rfl (rt_call (vs := [.slice a5 n6 c7, .slice a13 n14 c15]) co76 rfl) ((ok_laws_eqEntryS F) hS32.enter0 (SliceAt.mono hS30.le hs8) (SliceAt.mono hS30.le hs16) hx37) ?_
  rintro e42 w40 ⟨K39, rfl, hS41⟩
  refine ⟨_, rfl, ?_⟩
  have hS43 : SH _ _ _ _ _ [_, _] := SH.call0 hS32 hS41
  refine wl_val wn rfl (rv_not rfl) ?_
  refine nq ?_
  refine wc_cond rfl (fun hb44 => ?_) (fun hb44 => ?_)
  ·have h45 := cond_t hb44 h38
   refine sr ?_
   refine wl_val wn rfl (rv_assign (v := .bool false) rfl) ?_
   refine nq ?_
   refine rr ?_
   obtain rfl := oi h45
   have hS46 : SH _ _ _ _ _ [] := SH.sublist hS43 (.cons _ (.cons _ .slnil))
   exact qe_ret (vs := [_]) Tryz.results24 ⟨rfl, trivial⟩ ⟨K39, rfl, hS46⟩
  ·have h45 := cond_f hb44 h38
   refine wc_skip ?_
   refine qr ?_
   refine wl_val wn rfl (rv_assign (v := .bool true) rfl) ?_
   refine nq ?_
   refine wc_ret ?_
   obtain rfl := oi h45
   have hS47 : SH _ _ _ _ _ [] := SH.sublist hS43 (.cons _ (.cons _ .slnil))
   exact qe_ret (vs := [_]) Tryz.results24 ⟨rfl, trivial⟩ ⟨K39, rfl, hS47⟩

theorem ok_laws_eqStringS (F : Nat) {w : World} {K : KMap} {a1 : Option Addr} {n2 c3 : Nat} {a5 : Option Addr} {n6 c7 : Nat} {p0_a : List Str} {p1_b : List Str} {r : Bool} (hS : SH w K [] w K []) (hs4 : SliceAt tStr K a1 n2 c3 p0_a) (hs8 : SliceAt tStr K a5 n6 c7 p1_b) (hm : M.laws_eqStringS F p0_a p1_b = some r) :
  Calls Tryz.prog 37 #[.slice a1 n2 c3, .slice a5 n6 c7] w fun e w' => ∃ (K' : KMap), e = .returned (.bool r) ∧ SH w K [] w' K' [] := by
 rw [M.laws_eqStringS] at hm
 refine calls_in Tryz.func37 rfl Tryz.ntmps37 rfl ?_
 refine sr ?_
 refine wl_val wn rfl (rv_assign (v := .bool false) rfl) ?_
 refine nsr ?_
 refine vm rfl rfl ?_
 refine wl_val wn rfl (rv_len (t := tStr) Tryz.underlying23 rfl hs4) ?_
 refine vm rfl rfl ?_
 refine wl_val wn rfl (rv_len (t := tStr) Tryz.underlying23 rfl hs8) ?_
 refine wl_val wn rfl (rv_neq rfl rfl) ?_
 refine nq ?_
 refine wc_cond rfl (fun hb9 => ?_) (fun hb9 => ?_)
 ·have h10 := cond_t hb9 hm
  refine sr ?_
  refine wl_val wn rfl (rv_assign (v := .bool false) rfl) ?_
  refine nq ?_
  refine rr ?_
  obtain rfl := oi h10
  exact qe_ret (vs := [_]) Tryz.results37 ⟨rfl, trivial⟩ ⟨K, rfl, hS⟩
 ·have h10 := cond_f hb9 hm
  refine wc_skip ?_
  refine qs ?_
  refine sr ?_
  refine wl_val wn rfl (rv_assign (v := .int .i64 0) rfl) ?_
  refine nq ?_
  obtain ⟨o11, h12, h13⟩ := ob h10
  refine wc_cutg (fun E' w' => ∃ (s14 : Unit) (K15 : KMap), o11 = .inl s14 ∧ E' = [] ∧ SH w K [] w' K15 [] ∧ KLe K K15) ?_ ?_
  ·refine wc_block ?_
   obtain ⟨r20, h21, h22⟩ := ob h12
   refine wc_while' (fun (s19 : Int) E' w' => ∃ (K23 : KMap), E' = [(0, .slice a1 n2 c3), (1, .slice a5 n6 c7), (5, .int .i64 s19)] ∧ SH w K [] w' K23 [] ∧ KLe K K23 ∧ rng64 s19) h21 ⟨K, rfl, hS, (KLe.refl _), (by decide : rng64 0)⟩ ⟨rfl, rfl, rfl, trivial⟩ ?_
   rintro s19 _ w25 r28 h29 hx30 ⟨K23, rfl, hS26, hl24, hr27⟩
   refine wc_seq ?_
   refine sr ?_
   refine vm rfl rfl ?_
   refine vm rfl rfl ?_
   refine wl_val wn rfl (rv_len (t := tStr) Tryz.underlying23 rfl (SliceAt.mono hl24 hs4)) ?_
   refine wl_val wn rfl (rv_lss rfl rfl) ?_
   refine nq ?_
   refine wc_cond rfl (fun hb31 => ?_) (fun hb31 => ?_)
   ·have h32 := cond_t hb31 h29
    refine wc_skip ?_
    refine qs ?_
    refine wc_block ?_
    refine wc_seq ?_
    refine wc_quiet mixed (by kernel_rfl) hS26 ?_
    refine qm rfl rfl ?_
    refine qm rfl rfl ?_
    obtain ⟨x33, hx34, h35⟩ := ob h32
    refine wq_indexAddr (t := tStr) wn rfl Tryz.underlying23 tf9 rfl rfl (SliceAt.mono hl24 hs4) hx34 ?_
    intro b36 o37 u38 hu39 ha40
    obtain ⟨rfl, hl41⟩ := hu39
    have ha42 : AtK _ b36 o37 [sv x33] := ha40
    refine wq_val wn rfl (rq_load1 tf9 rfl (ha42 0 _ rfl)) ?_
    refine qm rfl rfl ?_
    refine qm rfl rfl ?_
    obtain ⟨x43, hx44, h45⟩ := ob h35
    refine wq_indexAddr (t := tStr) wn rfl Tryz.underlying23 tf9 rfl rfl (SliceAt.mono hl24 hs8) hx44 ?_
    intro b46 o47 u48 hu49 ha50
    obtain ⟨rfl, hl51⟩ := hu49
    have ha52 : AtK _ b46 o47 [sv x43] := ha50
    refine wq_val wn rfl (rq_load1 tf9 rfl (ha52 0 _ rfl)) ?_
    refine wq_val wn rfl (fun _ _ => (rv_sneq rfl rfl)) ?_
    refine wq_nil ?_
    rintro w54 ⟨K53, hS55, hl56⟩
    refine qe_seq ?_
    refine wc_cond rfl (fun hb57 => ?_) (fun hb57 => ?_)
    ·have h58 := cond_t hb57 h45
     refine sr ?_
     refine wl_val wn rfl (rv_assign (v := .bool false) rfl) ?_
     refine nq ?_
     refine wc_ret ?_
     refine qe_block_ret ?_
     refine qe_then_ret ?_
     refine qe_then_ret ?_
     obtain rfl := oi h58
     have e59 := hx30 _ rfl
     subst e59
     refine qe_block_ret ?_
     refine qe_then_ret ?_
     obtain rfl := oi h22
     refine qe_then_ret ?_
     obtain rfl := oi h13
     exact qe_ret (vs := [_]) Tryz.results37 ⟨rfl, trivial⟩ ⟨K53, rfl, hS55⟩
    ·have h58 := cond_f hb57 h45
     refine wc_skip ?_
     refine qe_block ?_
     refine qe_seq ?_
     refine wc_region ?_
     refine vm rfl rfl ?_
     refine wl_val wn rfl (rv_add rfl rfl) ?_
     refine va rfl rfl ?_
     refine wl_nil ?_
     obtain rfl := oi h58
     exact qe_mid' ⟨_, rfl, K53, rfl, hS55, (hl24.trans hl56), (w64_rng _)⟩ ⟨rfl, rfl, rfl, trivial⟩
   ·have h32 := cond_f hb31 h29
    refine wc_exit ?_
    refine qe_then_exit ?_
    refine qe_then_exit ?_
    obtain rfl := oi h32
    have e60 := hx30 _ rfl
    subst e60
    refine qe_block_eq ?_
    obtain rfl := oi h22
    exact qe_mid' ⟨_, K23, rfl, rfl, hS26, hl24⟩ trivial
  ·rintro _ w17 ⟨s14, K15, rfl, rfl, hS18, hl16⟩
   refine qr ?_
   refine wl_val wn rfl (rv_assign (v := .bool true) rfl) ?_
   refine nq ?_
   refine wc_ret ?_
   obtain rfl := oi h13
   exact qe_ret (vs := [_]) Tryz.results37 ⟨rfl, trivial⟩ ⟨K15, rfl, hS18⟩

theorem ok_laws_eqSyn (F : Nat) {w : World} {K : KMap} {a1 : Option Addr} {n2 c3 : Nat} {a6 : Option Addr} {n7 c8 : Nat} {p0_a : GSyn} {p1_b : GSyn} {r : Bool} (hS : SH w K [] w K []) (hs4 : SliceAt tStr K a1 n2 c3 p0_a.From) (hl5 : p0_a.To.length ≤ maxLen) (hs9 : SliceAt tStr K a6 n7 c8 p1_b.From) (hl10 : p1_b.To.length ≤ maxLen) (hm : M.laws_eqSyn F p0_a p1_b = some r) :
  Calls Tryz.prog 128 #[.agg #[.slice a1 n2 c3, sv p0_a.To], .agg #[.slice a6 n7 c8, sv p1_b.To]] w fun e w' => ∃ (K' : KMap), e = .returned (.bool r) ∧ SH w K [] w' K' [] := by
 rw [M.laws_eqSyn] at hm
 refine calls_in Tryz.func128 rfl Tryz.ntmps128 rfl ?_
 refine sr ?_
 refine wl_box wn rfl rfl hS ?_
 intro g11 w12 hS13
 have hS14 : SH _ _ _ _ _ [obj g11 [.slice a1 n2 c3, sv p0_a.To] 106] := hS13
 refine wl_box wn rfl rfl hS14 ?_
 intro g15 w16 hS17
 have hS18 : SH _ _ _ _ _ [obj g15 [.slice a6 n7 c8, sv p1_b.To] 106, _] := hS17
 refine wl_val wn rfl (rv_assign (v := .bool false) rfl) ?_
 refine nsr ?_
 refine wl_val wn rfl (rv_fieldAddr ff106_0 rfl) ?_
 refine wl_val wn rfl (rv_loadm1 tf23 rfl (.tail _ (.head _)) hS18 rfl) ?_
 refine wl_val wn rfl (rv_fieldAddr ff106_0 rfl) ?_
 refine wl_val wn rfl (rv_loadm1 tf23 rfl (.head _) hS18 rfl) ?_
 obtain ⟨r19, hx20, h21⟩ := ob hm
 refine wl_call wn rfl (rt_call (vs := [.slice a1 n2 c3, .slice a6 n7 c8]) co37 rfl) ((ok_laws_eqStringS F) hS18.enter0 hs4 hs9 hx20) ?_
 rintro e25 w23 ⟨K22, rfl, hS24⟩
 refine ⟨_, rfl, ?_⟩
 have hS26 : SH _ _ _ _ _ [_, _] := SH.call0 hS18 hS24
 refine wl_val wn rfl (rv_not rfl) ?_
 refine nq ?_
 refine wc_cond rfl (fun hb27 => ?_) (fun hb27 => ?_)
 ·have h28 := cond_t hb27 h21
  refine sr ?_
  refine wl_val wn rfl (rv_assign (v := .bool false) rfl) ?_
  refine nq ?_
  refine rr ?_
  obtain rfl := oi h28
  have hS29 : SH _ _ _ _ _ [] := SH.sublist hS26 (.cons _ (.cons _ .slnil))
  exact qe_ret (vs := [_]) Tryz.results128 ⟨rfl, trivial⟩ ⟨K22, rfl, hS29⟩
 ·have h28 := cond_f hb27 h21
  refine wc_skip ?_
  refine qs ?_
  refine sr ?_
  refine wl_val wn rfl (rv_fieldAddr ff106_1 rfl) ?_
  refine wl_val wn rfl (rv_loadm1 tf9 rfl (.tail _ (.head _)) hS26 rfl) ?_
  refine wl_val wn rfl (rv_fieldAddr ff106_1 rfl) ?_
  refine wl_val wn rfl (rv_loadm1 tf9 rfl (.head _) hS26 rfl) ?_
  refine wl_val wn rfl (rv_sneq rfl rfl) ?_
  refine nq ?_
  refine wc_cond rfl (fun hb30 => ?_) (fun hb30 => ?_)
  ·have h31 := cond_t hb30 h28
   refine sr ?_
   refine wl_val wn rfl (rv_assign (v := .bool false) rfl) ?_
   refine nq ?_
   refine rr ?_
   obtain rfl := oi h31
   have hS32 : SH _ _ _ _ _ [] := SH.sublist hS26 (.cons _ (.cons _ .slnil))
   exact qe_ret (vs := [_]) Tryz.results128 ⟨rfl, trivial⟩ ⟨K22, rfl, hS32⟩
  ·have h31 := cond_f hb30 h28
   refine wc_skip ?_
   refine qr ?_
   refine wl_val wn rfl (rv_assign (v := .bool true) rfl) ?_
   refine nq ?_
   refine wc_ret ?_
   obtain rfl := oi h31
   have hS33 : SH _ _ _ _ _ [] := SH.sublist hS26 (.cons _ (.cons _ .slnil))
   exact qe_ret (vs := [_]) Tryz.results128 ⟨rfl, trivial⟩ ⟨K22, rfl, hS33⟩

theorem ok_laws_eqSynS (F : Nat) {w : World} {K : KMap} {a1 : Option Addr} {n2 c3 : Nat} {a5 : Option Addr} {n6 c7 : Nat} {p0_a : List GSyn} {p1_b : List GSyn} {r : Bool} (hS : SH w K [] w K []) (hs4 : SliceAt tGSyn K a1 n2 c3 p0_a) (hs8 : SliceAt tGSyn K a5 n6 c7 p1_b) (hm : M.laws_eqSynS F p0_a p1_b = some r) :
  Calls Tryz.prog 77 #[.slice a1 n2 c3, .slice a5 n6 c7] w fun e w' => ∃ (K' : KMap), e = .returned (.bool r) ∧ SH w K [] w' K' [] := by
 rw [M.laws_eqSynS] at hm
 refine calls_in Tryz.func77 rfl Tryz.ntmps77 rfl ?_
 refine sr ?_
 refine wl_val wn rfl (rv_assign (v := .bool false) rfl) ?_
 refine nsr ?_
 refine vm rfl rfl ?_
 refine wl_val wn rfl (rv_len (t := tGSyn) Tryz.underlying24 rfl hs4) ?_
 refine vm rfl rfl ?_
 refine wl_val wn rfl (rv_len (t := tGSyn) Tryz.underlying24 rfl hs8) ?_
 refine wl_val wn rfl (rv_neq rfl rfl) ?_
 refine nq ?_
 refine wc_cond rfl (fun hb9 => ?_) (fun hb9 => ?_)
 ·have h10 := cond_t hb9 hm
  refine sr ?_
  refine wl_val wn rfl (rv_assign (v := .bool false) rfl) ?_
  refine nq ?_
  refine rr ?_
  obtain rfl := oi h10
  exact qe_ret (vs := [_]) Tryz.results77 ⟨rfl, trivial⟩ ⟨K, rfl, hS⟩
 ·have h10 := cond_f hb9 hm
  refine wc_skip ?_
  refine qs ?_
  refine sr ?_
  refine wl_val wn rfl (rv_assign (v := .int .i64 0) rfl) ?_
  refine nq ?_
  obtain ⟨o11, h12, h13⟩ := ob h10
  refine wc_cutg (fun E' w' => ∃ (s14 : Unit) (K15 : KMap), o11 = .inl s14 ∧ E' = [] ∧ SH w K [] w' K15 [] ∧ KLe K K15) ?_ ?_
  ·refine wc_block ?_
   obtain ⟨r20, h21, h22⟩ := ob h12
   refine wc_while' (fun (s19 : Int) E' w' => ∃ (K23 : KMap), E' = [(0, .slice a1 n2 c3), (1, .slice a5 n6 c7), (5, .int .i64 s19)] ∧ SH w K [] w' K23 [] ∧ KLe K K23 ∧ rng64 s19) h21 ⟨K, rfl, hS, (KLe.refl _), (by decide : rng64 0)⟩ ⟨rfl, rfl, rfl, trivial⟩ ?_
   rintro s19 _ w25 r28 h29 hx30 ⟨K23, rfl, hS26, hl24, hr27⟩
   refine wc_seq ?_
   refine sr ?_
   refine vm rfl rfl ?_
   refine vm rfl rfl ?_
   refine wl_val wn rfl (rv_len (t := tGSyn) Tryz.underlying24 rfl (SliceAt.mono hl24 hs4)) ?_
   refine wl_val wn rfl (rv_lss rfl rfl) ?_
   refine nq ?_
   refine wc_cond rfl (fun hb31 => ?_) (fun hb31 => ?_)
   ·have h32 := cond_t hb31 h29
    refine wc_skip ?_
    refine qs ?_
    refine wc_block ?_
    refine wc_seq ?_
    refine wc_quiet mixed (by kernel_rfl) hS26 ?_
    refine qm rfl rfl ?_
    refine qm rfl rfl ?_
    obtain ⟨x33, hx34, h35⟩ := ob h32
    refine wq_indexAddr (t := tGSyn) wn rfl Tryz.underlying24 tf106 rfl rfl (SliceAt.mono hl24 hs4) hx34 ?_
    intro b36 o37 u38 hu39 ha40
    obtain ⟨a41, n42, c43, rfl, hs44, hl45⟩ := hu39
    have ha46 : AtK _ b36 o37 [.slice a41 n42 c43, sv x33.To] := ha40
    refine wq_val wn rfl (rq_loadS (cs := [.slice a41 n42 c43, sv x33.To]) tf106 rfl ha46 rfl) ?_
    refine qm rfl rfl ?_
    refine qm rfl rfl ?_
    obtain ⟨x47, hx48, h49⟩ := ob h35
    refine wq_indexAddr (t := tGSyn) wn rfl Tryz.underlying24 tf106 rfl rfl (SliceAt.mono hl24 hs8) hx48 ?_
    intro b50 o51 u52 hu53 ha54
    obtain ⟨a55, n56, c57, rfl, hs58, hl59⟩ := hu53
    have ha60 : AtK _ b50 o51 [.slice a55 n56 c57, sv x47.To] := ha54
    refine wq_val wn rfl (rq_loadS (cs := [.slice a55 n56 c57, sv x47.To]) tf106 rfl ha60 rfl) ?_
    obtain ⟨r61, hx62, h63⟩ := ob h49
    refine wq_call (v := .bool r61) wn rfl (fun _ => rt_call (vs := [.agg #[.slice a41 n42 c43, sv x33.To], .agg #[.slice a55 n56 c57, sv x47.To]]) co128 rfl) (fun w66 ⟨K64, hS65, hl67⟩ => ((ok_laws_eqSyn F) hS65.enter0 (SliceAt.mono hl67 hs44) hl45 (SliceAt.mono hl67 hs58) hl59 hx62).mono fun e w' ⟨K', he, hS'⟩ => ⟨he, K', hS65.call0 hS', hl67.trans hS'.le⟩) ?_
    refine wq_val wn rfl (fun _ _ => (rv_not rfl)) ?_
    refine wq_nil ?_
    rintro w69 ⟨K68, hS70, hl71⟩
    refine qe_seq ?_
    refine wc_cond rfl (fun hb72 => ?_) (fun hb72 => ?_)
    ·have h73 := cond_t hb72 h63
     refine sr ?_
     refine wl_val wn rfl (rv_assign (v := .bool false) rfl) ?_
     refine nq ?_
     refine wc_ret ?_
     refine qe_block_ret ?_
     refine qe_then_ret ?_
     refine qe_then_ret ?_
     obtain rfl := oi h73
     have e74 := hx30 _ rfl
     subst e74
     refine qe_block_ret ?_
     refine qe_then_ret ?_
     obtain rfl := oi h22
     refine qe_then_ret ?_
     obtain rfl := oi h13
     exact qe_ret (vs := [_]) Tryz.results77 ⟨rfl, trivial⟩ ⟨K68, rfl, hS70⟩
    ·have h73 := cond_f hb72 h63
     refine wc_skip ?_
     refine qe_block ?_
     refine qe_seq ?_
     refine wc_region ?_
     refine vm rfl rfl ?_
     refine wl_val wn rfl (rv_add rfl rfl) ?_
     refine va rfl rfl ?_
     refine wl_nil ?_
     obtain rfl := oi h73
     exact qe_mid' ⟨_, rfl, K68, rfl, hS70, (hl24.trans hl71), (w64_rng _)⟩ ⟨rfl, rfl, rfl, trivial⟩
   ·have h32 := cond_f hb31 h29
    refine wc_exit ?_
    refine qe_then_exit ?_
    refine qe_then_exit ?_
    obtain rfl := oi h32
    have e75 := hx30 _ rfl
    subst e75
    refine qe_block_eq ?_
    obtain rfl := oi h22
    exact qe_mid' ⟨_, K23, rfl, rfl, hS26, hl24⟩ trivial
  ·rintro _ w17 ⟨s14, K15, rfl, rfl, hS18, hl16⟩
   refine qr ?_
   refine wl_val wn rfl (rv_assign (v := .bool true) rfl) ?_
   refine nq ?_
   refine wc_ret ?_
   obtain rfl := oi h13
   exact qe_ret (vs := [_]) Tryz.results77 ⟨rfl, trivial⟩ ⟨K15, rfl, hS18⟩

theorem ok_laws_eqConf (F : Nat) {w : World} {K : KMap} {a1 : Option Addr} {n2 c3 : Nat} {a5 : Option Addr} {n6 c7 : Nat} {a9 : Option Addr} {n10 c11 : Nat} {a13 : Option Addr} {n14 c15 : Nat} {p0_a : GConf} {p1_b : GConf} {r : Bool} (hS : SH w K [] w K []) (hs4 : SliceAt tStr K a1 n2 c3 p0_a.Stops) (hs8 : SliceAt tGSyn K a5 n6 c7 p0_a.Syns) (hs12 : SliceAt tStr K a9 n10 c11 p1_b.Stops) (hs16 : SliceAt tGSyn K a13 n14 c15 p1_b.Syns) (hm : M.laws_eqConf F p0_a p1_b = some r) :
  Calls Tryz.prog 25 #[.agg #[.slice a1 n2 c3, .slice a5 n6 c7], .agg #[.slice a9 n10 c11, .slice a13 n14 c15]] w fun e w' => ∃ (K' : KMap), e = .returned (.bool r) ∧ SH w K [] w' K' [] := by
 rw [M.laws_eqConf] at hm
 refine calls_in Tryz.func25 rfl Tryz.ntmps25 rfl ?_
 refine sr ?_
 refine wl_box wn rfl rfl hS ?_
 intro g17 w18 hS19
 have hS20 : SH _ _ _ _ _ [obj g17 [.slice a1 n2 c3, .slice a5 n6 c7] 26] := hS19
 refine wl_box wn rfl rfl hS20 ?_
 intro g21 w22 hS23
 have hS24 : SH _ _ _ _ _ [obj g21 [.slice a9 n10 c11, .slice a13 n14 c15] 26, _] := hS23
 refine wl_val wn rfl (rv_assign (v := .bool false) rfl) ?_
 refine nsr ?_
 refine wl_val wn rfl (rv_fieldAddr ff26_0 rfl) ?_
 refine wl_val wn rfl (rv_loadm1 tf23 rfl (.tail _ (.head _)) hS24 rfl) ?_
 refine wl_val wn rfl (rv_fieldAddr ff26_0 rfl) ?_
 refine wl_val wn rfl (rv_loadm1 tf23 rfl (.head _) hS24 rfl) ?_
 obtain ⟨r25, hx26, h27⟩ := ob hm
 refine wl_call wn rfl (rt_call (vs := [.slice a1 n2 c3, .slice a9 n10 c11]) co37 rfl) ((ok_laws_eqStringS F) hS24.enter0 hs4 hs12 hx26) ?_
 rintro e31 w29 ⟨K28, rfl, hS30⟩
 refine ⟨_, rfl, ?_⟩
 have hS32 : SH _ _ _ _ _ [_, _] := SH.call0 hS24 hS30
 refine wl_val wn rfl (rv_not rfl) ?_
 refine nq ?_
 refine wc_cond rfl (fun hb33 => ?_) (fun hb33 => ?_)
 ·have h34 := cond_t hb33 h27
  refine sr ?_
  refine wl_val wn rfl (rv_assign (v := .bool false) rfl) ?_
  refine nq ?_
  refine rr ?_
  obtain rfl := oi h34
  have hS35 : SH _ _ _ _ _ [] := SH.sublist hS32 (.cons _ (.cons _ .slnil))
  exact qe_ret (vs := [_]) Tryz.results25 ⟨rfl, trivial⟩ ⟨K28, rfl, hS35⟩
 ·have h34 := cond_f hb33 h27
  refine wc_skip ?_
  refine qs ?_
  refine sr ?_
  refine wl_val wn rfl (rv_fieldAddr ff26_1 rfl) ?_
  refine wl_val wn rfl (rv_loadm1 tf24 rfl (.tail _ (.head _)) hS32 rfl) ?_
  refine wl_val wn rfl (rv_fieldAddr ff26_1 rfl) ?_
  refine wl_val wn rfl (rv_loadm1 tf24 rfl (.head _) hS32 rfl) ?_
  obtain ⟨r36, hx37, h38⟩ := ob h34
  refine wl_call wn rfl (rt_call (vs := [.slice a5 n6 c7, .slice a13 n14 c15]) co77 rfl) ((ok_laws_eqSynS F) hS32.enter0 (SliceAt.mono hS30.le hs8) (SliceAt.mono hS30.le hs16) hx37) ?_
  rintro e42 w40 ⟨K39, rfl, hS41⟩
  refine ⟨_, rfl, ?_⟩
  have hS43 : SH _ _ _ _ _ [_, _] := SH.call0 hS32 hS41
  refine wl_val wn rfl (rv_not rfl) ?_
  refine nq ?_
  refine wc_cond rfl (fun hb44 => ?_) (fun hb44 => ?_)
  ·have h45 := cond_t hb44 h38
   refine sr ?_
   refine wl_val wn rfl (rv_assign (v := .bool false) rfl) ?_
   refine nq ?_
   refine rr ?_
   obtain rfl := oi h45
   have hS46 : SH _ _ _ _ _ [] := SH.sublist hS43 (.cons _ (.cons _ .slnil))
   exact qe_ret (vs := [_]) Tryz.results25 ⟨rfl, trivial⟩ ⟨K39, rfl, hS46⟩
  ·have h45 := cond_f hb44 h38
   refine wc_skip ?_
   refine qr ?_
   refine wl_val wn rfl (rv_assign (v := .bool true) rfl) ?_
   refine nq ?_
   refine wc_ret ?_
   obtain rfl := oi h45
   have hS47 : SH _ _ _ _ _ [] := SH.sublist hS43 (.cons _ (.cons _ .slnil))
   exact qe_ret (vs := [_]) Tryz.results25 ⟨rfl, trivial⟩ ⟨K39, rfl, hS47⟩

theorem ok_laws_szField (F : Nat) {w : World} {K : KMap} {p0_a : GField} {p1_left : Int} {r : Int} (hS : SH w K [] w K []) (hl1 : p0_a.Name.length ≤ maxLen) (hl2 : p0_a.Text.length ≤ maxLen) (hr3 : rng64 p1_left) (hm : M.laws_szField F p0_a p1_left = some r) :
  Calls Tryz.prog 142 #[.agg #[sv p0_a.Name, sv p0_a.Text], .int .i64 p1_left] w fun e w' => ∃ (K' : KMap), e = .returned (.int .i64 r) ∧ SH w K [] w' K' [] ∧ rng64 r := by
 rw [M.laws_szField] at hm
 refine calls_in Tryz.func142 rfl Tryz.ntmps142 rfl ?_
 refine sr ?_
 refine wl_box wn rfl rfl hS ?_
 intro g4 w5 hS6
 have hS7 : SH _ _ _ _ _ [obj g4 [sv p0_a.Name, sv p0_a.Text] 183] := hS6
 refine wl_val wn rfl (rv_assign (v := .int .i64 0) rfl) ?_
 refine nr ?_
 refine vm rfl rfl ?_
 refine wl_val wn rfl (rv_fieldAddr ff183_0 rfl) ?_
 refine wl_val wn rfl (rv_loadm1 tf9 rfl (.head _) hS7 rfl) ?_
 refine wl_val wn rfl (rv_slen Tryz.underlying9 rfl) ?_
 refine wl_val wn rfl (rv_sub rfl rfl) ?_
 refine va rfl rfl ?_
 refine nsr ?_
 refine vm rfl rfl ?_
 refine wl_val wn rfl (rv_lss rfl rfl) ?_
 refine nq ?_
 refine wc_cond rfl (fun hb8 => ?_) (fun hb8 => ?_)
 ·have h9 := cond_t hb8 hm
  refine sr ?_
  refine wl_val wn rfl (rv_assign (v := .int .i64 (-1)) rfl) ?_
  refine nq ?_
  refine rr ?_
  obtain rfl := oi h9
  have hS10 : SH _ _ _ _ _ [] := SH.sublist hS7 (.cons _ .slnil)
  exact qe_ret (vs := [_]) Tryz.results142 ⟨rfl, trivial⟩ ⟨K, rfl, hS10, (by decide : rng64 (-1))⟩
 ·have h9 := cond_f hb8 hm
  refine wc_skip ?_
  refine qr ?_
  refine vm rfl rfl ?_
  refine wl_val wn rfl (rv_fieldAddr ff183_1 rfl) ?_
  refine wl_val wn rfl (rv_loadm1 tf9 rfl (.head _) hS7 rfl) ?_
  refine wl_val wn rfl (rv_slen Tryz.underlying9 rfl) ?_
  refine wl_val wn rfl (rv_sub rfl rfl) ?_
  obtain ⟨x11, hx12, h13⟩ := ob h9
  have e14 := oi hx12
  refine wl_val wn rfl (rv_as rfl (congrArg (Value.int .i64) e14)) ?_
  refine nsr ?_
  refine vm rfl rfl ?_
  refine wl_val wn rfl (rv_lss rfl rfl) ?_
  refine nq ?_
  refine wc_cond rfl (fun hb15 => ?_) (fun hb15 => ?_)
  ·have h16 := cond_t hb15 h13
   refine sr ?_
   refine wl_val wn rfl (rv_assign (v := .int .i64 (-1)) rfl) ?_
   refine nq ?_
   refine rr ?_
   obtain rfl := oi h16
   have hS17 : SH _ _ _ _ _ [] := SH.sublist hS7 (.cons _ .slnil)
   exact qe_ret (vs := [_]) Tryz.results142 ⟨rfl, trivial⟩ ⟨K, rfl, hS17, (by decide : rng64 (-1))⟩
  ·have h16 := cond_f hb15 h13
   refine wc_skip ?_
   refine qr ?_
   refine vm rfl rfl ?_
   refine va rfl rfl ?_
   refine nq ?_
   refine wc_ret ?_
   obtain rfl := oi h16
   have hS18 : SH _ _ _ _ _ [] := SH.sublist hS7 (.cons _ .slnil)
   exact qe_ret (vs := [_]) Tryz.results142 ⟨rfl, trivial⟩ ⟨K, rfl, hS18, (cast_rng e14 (w64_rng _))⟩

theorem ok_laws_szFieldS (F : Nat) {w : World} {K : KMap} {a1 : Option Addr} {n2 c3 : Nat} {p0_a : List GField} {p1_left : Int} {r : Int} (hS : SH w K [] w K []) (hs4 : SliceAt tGField K a1 n2 c3 p0_a) (hr5 : rng64 p1_left) (hm : M.laws_szFieldS F p0_a p1_left = some r) :
  Calls Tryz.prog 107 #[.slice a1 n2 c3, .int .i64 p1_left] w fun e w' => ∃ (K' : KMap), e = .returned (.int .i64 r) ∧ SH w K [] w' K' [] ∧ rng64 r := by
 rw [M.laws_szFieldS] at hm
 refine calls_in Tryz.func107 rfl Tryz.ntmps107 rfl ?_
 refine sr ?_
 refine wl_val wn rfl (rv_assign (v := .int .i64 0) rfl) ?_
 refine nr ?_
 refine vm rfl rfl ?_
 refine vm rfl rfl ?_
 refine wl_val wn rfl (rv_len (t := tGField) Tryz.underlying112 rfl hs4) ?_
 refine wl_val wn rfl (rv_sub rfl rfl) ?_
 refine va rfl rfl ?_
 refine nsr ?_
 refine vm rfl rfl ?_
 refine wl_val wn rfl (rv_lss rfl rfl) ?_
 refine nq ?_
 refine wc_cond rfl (fun hb6 => ?_) (fun hb6 => ?_)
 ·have h7 := cond_t hb6 hm
  refine sr ?_
  refine wl_val wn rfl (rv_assign (v := .int .i64 (-1)) rfl) ?_
  refine nq ?_
  refine rr ?_
  obtain rfl := oi h7
  exact qe_ret (vs := [_]) Tryz.results107 ⟨rfl, trivial⟩ ⟨K, rfl, hS, (by decide : rng64 (-1))⟩
 ·have h7 := cond_f hb6 hm
  refine wc_skip ?_
  refine qs ?_
  refine sr ?_
  refine wl_val wn rfl (rv_assign (v := .int .i64 0) rfl) ?_
  refine nq ?_
  obtain ⟨o8, h9, h10⟩ := ob h7
  refine wc_cutg (fun E' w' => ∃ (s11 : Int) (K12 : KMap), o8 = .inl s11 ∧ E' = [(1, .int .i64 s11)] ∧ SH w K [] w' K12 [] ∧ KLe K K12 ∧ rng64 s11) ?_ ?_
  ·refine wc_block ?_
   obtain ⟨r18, h19, h20⟩ := ob h9
   refine wc_while' (fun (s17 : Int × Int) E' w' => ∃ (K21 : KMap), E' = [(0, .slice a1 n2 c3), (1, .int .i64 s17.1), (5, .int .i64 s17.2)] ∧ SH w K [] w' K21 [] ∧ KLe K K21 ∧ rng64 s17.1 ∧ rng64 s17.2) h19 ⟨K, rfl, hS, (KLe.refl _), (w64_rng _), (by decide : rng64 0)⟩ ⟨rfl, rfl, rfl, trivial⟩ ?_
   rintro s17 _ w23 r27 h28 hx29 ⟨K21, rfl, hS24, hl22, hr25, hr26⟩
   refine wc_seq ?_
   refine sr ?_
   refine vm rfl rfl ?_
   refine vm rfl rfl ?_
   refine wl_val wn rfl (rv_len (t := tGField) Tryz.underlying112 rfl (SliceAt.mono hl22 hs4)) ?_
   refine wl_val wn rfl (rv_lss rfl rfl) ?_
   refine nq ?_
   refine wc_cond rfl (fun hb30 => ?_) (fun hb30 => ?_)
   ·have h31 := cond_t hb30 h28
    refine wc_skip ?_
    refine qs ?_
    refine wc_block ?_
    refine sr ?_
    refine vm rfl rfl ?_
    refine vm rfl rfl ?_
    obtain ⟨x32, hx33, h34⟩ := ob h31
    refine wl_indexAddr (t := tGField) wn rfl Tryz.underlying112 tf183 rfl rfl (SliceAt.mono hl22 hs4) hx33 ?_
    intro b35 o36 u37 hu38 ha39
    obtain ⟨rfl, hl40, hl41⟩ := hu38
    have ha42 : AtK _ b35 o36 [sv x32.Name, sv x32.Text] := ha39
    refine wl_val wn rfl (rv_loadS (cs := [sv x32.Name, sv x32.Text]) tf183 rfl hS24 ha42 rfl) ?_
    refine vm rfl rfl ?_
    obtain ⟨r43, hx44, h45⟩ := ob h34
    refine wl_call wn rfl (rt_call (vs := [.agg #[sv x32.Name, sv x32.Text], .int .i64 s17.1]) co142 rfl) ((ok_laws_szField F) hS24.enter0 hl40 hl41 hr25 hx44) ?_
    rintro e50 w47 ⟨K46, rfl, hS48, hr49⟩
    refine ⟨_, rfl, ?_⟩
    have hS51 : SH _ _ _ _ _ [] := SH.call0 hS24 hS48
    refine va rfl rfl ?_
    refine nr ?_
    refine vm rfl rfl ?_
    refine wl_val wn rfl (rv_lss rfl rfl) ?_
    refine nq ?_
    refine wc_cond rfl (fun hb52 => ?_) (fun hb52 => ?_)
    ·have h53 := cond_t hb52 h45
     refine sr ?_
     refine wl_val wn rfl (rv_assign (v := .int .i64 (-1)) rfl) ?_
     refine nq ?_
     refine wc_ret ?_
     refine qe_block_ret ?_
     refine qe_then_ret ?_
     refine qe_then_ret ?_
     obtain rfl := oi h53
     have e54 := hx29 _ rfl
     subst e54
     refine qe_block_ret ?_
     refine qe_then_ret ?_
     obtain rfl := oi h20
     refine qe_then_ret ?_
     obtain rfl := oi h10
     exact qe_ret (vs := [_]) Tryz.results107 ⟨rfl, trivial⟩ ⟨K46, rfl, hS51, (by decide : rng64 (-1))⟩
    ·have h53 := cond_f hb52 h45
     refine wc_skip ?_
     refine qe_block ?_
     refine qe_seq ?_
     refine wc_region ?_
     refine vm rfl rfl ?_
     refine wl_val wn rfl (rv_add rfl rfl) ?_
     refine va rfl rfl ?_
     refine wl_nil ?_
     obtain rfl := oi h53
     exact qe_mid' ⟨_, rfl, K46, rfl, hS51, (hl22.trans hS48.le), hr49, (w64_rng _)⟩ ⟨rfl, rfl, rfl, trivial⟩
   ·have h31 := cond_f hb30 h28
    refine wc_exit ?_
    refine qe_then_exit ?_
    refine qe_then_exit ?_
    obtain rfl := oi h31
    have e55 := hx29 _ rfl
    subst e55
    refine qe_block_eq ?_
    obtain rfl := oi h20
    exact qe_mid' ⟨_, K21, rfl, rfl, hS24, hl22, hr25⟩ ⟨rfl, trivial⟩
  ·rintro _ w14 ⟨s11, K12, rfl, rfl, hS15, hl13, hr16⟩
   refine qr ?_
   refine vm rfl rfl ?_
   refine va rfl rfl ?_
   refine nq ?_
   refine wc_ret ?_
   obtain rfl := oi h10
   exact qe_ret (vs := [_]) Tryz.results107 ⟨rfl, trivial⟩ ⟨K12, rfl, hS15, hr16⟩

theorem ok_laws_szAttr (F : Nat) {w : World} {K : KMap} {p0_a : GAttr} {p1_left : Int} {r : Int} (hS : SH w K [] w K []) (hl1 : p0_a.Name.length ≤ maxLen) (hr2 : rng64 p0_a.Num) (hr3 : rng64 p1_left) (hm : M.laws_szAttr F p0_a p1_left = some r) :
  Calls Tryz.prog 143 #[.agg #[sv p0_a.Name, .int .i64 p0_a.Num], .int .i64 p1_left] w fun e w' => ∃ (K' : KMap), e = .returned (.int .i64 r) ∧ SH w K [] w' K' [] ∧ rng64 r := by
 rw [M.laws_szAttr] at hm
 refine calls_in Tryz.func143 rfl Tryz.ntmps143 rfl ?_
 refine sr ?_
 refine wl_box wn rfl rfl hS ?_
 intro g4 w5 hS6
 have hS7 : SH _ _ _ _ _ [obj g4 [sv p0_a.Name, .int .i64 p0_a.Num] 185] := hS6
 refine wl_val wn rfl (rv_assign (v := .int .i64 0) rfl) ?_
 refine nr ?_
 refine vm rfl rfl ?_
 refine wl_val wn rfl (rv_fieldAddr ff185_0 rfl) ?_
 refine wl_val wn rfl (rv_loadm1 tf9 rfl (.head _) hS7 rfl) ?_
 refine wl_val wn rfl (rv_slen Tryz.underlying9 rfl) ?_
 refine wl_val wn rfl (rv_sub rfl rfl) ?_
 refine va rfl rfl ?_
 refine nsr ?_
 refine vm rfl rfl ?_
 refine wl_val wn rfl (rv_lss rfl rfl) ?_
 refine nq ?_
 refine wc_cond rfl (fun hb8 => ?_) (fun hb8 => ?_)
 ·have h9 := cond_t hb8 hm
  refine sr ?_
  refine wl_val wn rfl (rv_assign (v := .int .i64 (-1)) rfl) ?_
  refine nq ?_
  refine rr ?_
  obtain rfl := oi h9
  have hS10 : SH _ _ _ _ _ [] := SH.sublist hS7 (.cons _ .slnil)
  exact qe_ret (vs := [_]) Tryz.results143 ⟨rfl, trivial⟩ ⟨K, rfl, hS10, (by decide : rng64 (-1))⟩
 ·have h9 := cond_f hb8 hm
  refine wc_skip ?_
  refine qr ?_
  refine vm rfl rfl ?_
  refine va rfl rfl ?_
  refine nq ?_
  refine wc_ret ?_
  obtain rfl := oi h9
  have hS11 : SH _ _ _ _ _ [] := SH.sublist hS7 (.cons _ .slnil)
  exact qe_ret (vs := [_]) Tryz.results143 ⟨rfl, trivial⟩ ⟨K, rfl, hS11, (w64_rng _)⟩

theorem ok_laws_szAttrS (F : Nat) {w : World} {K : KMap} {a1 : Option Addr} {n2 c3 : Nat} {p0_a : List GAttr} {p1_left : Int} {r : Int} (hS : SH w K [] w K []) (hs4 : SliceAt tGAttr K a1 n2 c3 p0_a) (hr5 : rng64 p1_left) (hm : M.laws_szAttrS F p0_a p1_left = some r) :
  Calls Tryz.prog 108 #[.slice a1 n2 c3, .int .i64 p1_left] w fun e w' => ∃ (K' : KMap), e = .returned (.int .i64 r) ∧ SH w K [] w' K' [] ∧ rng64 r := by
 rw [M.laws_szAttrS] at hm
 refine calls_in Tryz.func108 rfl Tryz.ntmps108 rfl ?_
 refine sr ?_
 refine wl_val wn rfl (rv_assign (v := .int .i64 0) rfl) ?_
 refine nr ?_
 refine vm rfl rfl ?_
 refine vm rfl rfl ?_
 refine wl_val wn rfl (rv_len (t := tGAttr) Tryz.underlying113 rfl hs4) ?_
 refine wl_val wn rfl (rv_sub rfl rfl) ?_
 refine va rfl rfl ?_
 refine nsr ?_
 refine vm rfl rfl ?_
 refine wl_val wn rfl (rv_lss rfl rfl) ?_
 refine nq ?_
 refine wc_cond rfl (fun hb6 => ?_) (fun hb6 => ?_)
 ·have h7 := cond_t hb6 hm
  refine sr ?_
  refine wl_val wn rfl (rv_assign (v := .int .i64 (-1)) rfl) ?_
  refine nq ?_
  refine rr ?_
  obtain rfl := oi h7
  exact qe_ret (vs := [_]) Tryz.results108 ⟨rfl, trivial⟩ ⟨K, rfl, hS, (by decide : rng64 (-1))⟩
 ·have h7 := cond_f hb6 hm
  refine wc_skip ?_
  refine qs ?_
  refine sr ?_
  refine wl_val wn rfl (rv_assign (v := .int .i64 0) rfl) ?_
  refine nq ?_
  obtain ⟨o8, h9, h10⟩ := ob h7
  refine wc_cutg (fun E' w' => ∃ (s11 : Int) (K12 : KMap), o8 = .inl s11 ∧ E' = [(1, .int .i64 s11)] ∧ SH w K [] w' K12 [] ∧ KLe K K12 ∧ rng64 s11) ?_ ?_
  ·refine wc_block ?_
   obtain ⟨r18, h19, h20⟩ := ob h9
   refine wc_while' (fun (s17 : Int × Int) E' w' => ∃ (K21 : KMap), E' = [(0, .slice a1 n2 c3), (1, .int .i64 s17.1), (5, .int .i64 s17.2)] ∧ SH w K [] w' K21 [] ∧ KLe K K21 ∧ rng64 s17.1 ∧ rng64 s17.2) h19 ⟨K, rfl, hS, (KLe.refl _), (w64_rng _), (by decide : rng64 0)⟩ ⟨rfl, rfl, rfl, trivial⟩ ?_
   rintro s17 _ w23 r27 h28 hx29 ⟨K21, rfl, hS24, hl22, hr25, hr26⟩
   refine wc_seq ?_
   refine sr ?_
   refine vm rfl rfl ?_
   refine vm rfl rfl ?_
   refine wl_val wn rfl (rv_len (t := tGAttr) Tryz.underlying113 rfl (SliceAt.mono hl22 hs4)) ?_
   refine wl_val wn rfl (rv_lss rfl rfl) ?_
   refine nq ?_
   refine wc_cond rfl (fun hb30 => ?_) (fun hb30 => ?_)
   ·have h31 := cond_t hb30 h28
    refine wc_skip ?_
    refine qs ?_
    refine wc_block ?_
    refine sr ?_
    refine vm rfl rfl ?_
    refine vm rfl rfl ?_
    obtain ⟨x32, hx33, h34⟩ := ob h31
    refine wl_indexAddr (t := tGAttr) wn rfl Tryz.underlying113 tf185 rfl rfl (SliceAt.mono hl22 hs4) hx33 ?_
    intro b35 o36 u37 hu38 ha39
    obtain ⟨rfl, hl40, hr41⟩ := hu38
    have ha42 : AtK _ b35 o36 [sv x32.Name, .int .i64 x32.Num] := ha39
    refine wl_val wn rfl (rv_loadS (cs := [sv x32.Name, .int .i64 x32.Num]) tf185 rfl hS24 ha42 rfl) ?_
    refine vm rfl rfl ?_
    obtain ⟨r43, hx44, h45⟩ := ob h34
    refine wl_call wn rfl (rt_call (vs := [.agg #[sv x32.Name, .int .i64 x32.Num], .int .i64 s17.1]) co143 rfl) ((ok_laws_szAttr F) hS24.enter0 hl40 hr41 hr25 hx44) ?_
    rintro e50 w47 ⟨K46, rfl, hS48, hr49⟩
    refine ⟨_, rfl, ?_⟩
    have hS51 : SH _ _ _ _ _ [] := SH.call0 hS24 hS48
    refine va rfl rfl ?_
    refine nr ?_
    refine vm rfl rfl ?_
    refine wl_val wn rfl (rv_lss rfl rfl) ?_
    refine nq ?_
    refine wc_cond rfl (fun hb52 => ?_) (fun hb52 => ?_)
    ·have h53 := cond_t hb52 h45
     refine sr ?_
     refine wl_val wn rfl (rv_assign (v := .int .i64 (-1)) rfl) ?_
     refine nq ?_
     refine wc_ret ?_
     refine qe_block_ret ?_
     refine qe_then_ret ?_
     refine qe_then_ret ?_
     obtain rfl := oi h53
     have e54 := hx29 _ rfl
     subst e54
     refine qe_block_ret ?_
     refine qe_then_ret ?_
     obtain rfl := oi h20
     refine qe_then_ret ?_
     obtain rfl := oi h10
     exact qe_ret (vs := [_]) Tryz.results108 ⟨rfl, trivial⟩ ⟨K46, rfl, hS51, (by decide : rng64 (-1))⟩
    ·have h53 := cond_f hb52 h45
     refine wc_skip ?_
     refine qe_block ?_
     refine qe_seq ?_
     refine wc_region ?_
     refine vm rfl rfl ?_
     refine wl_val wn rfl (rv_add rfl rfl) ?_
     refine va rfl rfl ?_
     refine wl_nil ?_
     obtain rfl := oi h53
     exact qe_mid' ⟨_, rfl, K46, rfl, hS51, (hl22.trans hS48.le), hr49, (w64_rng _)⟩ ⟨rfl, rfl, rfl, trivial⟩
   ·have h31 := cond_f hb30 h28
    refine wc_exit ?_
    refine qe_then_exit ?_
    refine qe_then_exit ?_
    obtain rfl := oi h31
    have e55 := hx29 _ rfl
    subst e55
    refine qe_block_eq ?_
    obtain rfl := oi h20
    exact qe_mid' ⟨_, K21, rfl, rfl, hS24, hl22, hr25⟩ ⟨rfl, trivial⟩
  ·rintro _ w14 ⟨s11, K12, rfl, rfl, hS15, hl13, hr16⟩
   refine qr ?_
   refine vm rfl rfl ?_
   refine va rfl rfl ?_
   refine nq ?_
   refine wc_ret ?_
   obtain rfl := oi h10
   exact qe_ret (vs := [_]) Tryz.results108 ⟨rfl, trivial⟩ ⟨K12, rfl, hS15, hr16⟩

theorem ok_laws_szDoc (F : Nat) {w : World} {K : KMap} {a2 : Option Addr} {n3 c4 : Nat} {a6 : Option Addr} {n7 c8 : Nat} {p0_a : GDoc} {p1_left : Int} {r : Int} (hS : SH w K [] w K []) (hr1 : rng64 p0_a.Id) (hs5 : SliceAt tGField K a2 n3 c4 p0_a.Fields) (hs9 : SliceAt tGAttr K a6 n7 c8 p0_a.Nums) (hr10 : rng64 p1_left) (hm : M.laws_szDoc F p0_a p1_left = some r) :
  Calls Tryz.prog 63 #[.agg #[.int .i64 p0_a.Id, .slice a2 n3 c4, .slice a6 n7 c8], .int .i64 p1_left] w fun e w' => ∃ (K' : KMap), e = .returned (.int .i64 r) ∧ SH w K [] w' K' [] ∧ rng64 r := by
 rw [M.laws_szDoc] at hm
 refine calls_in Tryz.func63 rfl Tryz.ntmps63 rfl ?_
 refine sr ?_
 refine wl_box wn rfl rfl hS ?_
 intro g11 w12 hS13
 have hS14 : SH _ _ _ _ _ [obj g11 [.int .i64 p0_a.Id, .slice a2 n3 c4, .slice a6 n7 c8] 115] := hS13
 refine wl_val wn rfl (rv_assign (v := .int .i64 0) rfl) ?_
 refine nr ?_
 refine wl_val wn rfl (rv_fieldAddr ff115_1 rfl) ?_
 refine wl_val wn rfl (rv_loadm1 tf112 rfl (.head _) hS14 rfl) ?_
 refine vm rfl rfl ?_
 obtain ⟨r15, hx16, h17⟩ := ob hm
 refine wl_call wn rfl (rt_call (vs := [.slice a2 n3 c4, .int .i64 p1_left]) co107 rfl) ((ok_laws_szFieldS F) hS14.enter0 hs5 hr10 hx16) ?_
 rintro e22 w19 ⟨K18, rfl, hS20, hr21⟩
 refine ⟨_, rfl, ?_⟩
 have hS23 : SH _ _ _ _ _ [_] := SH.call0 hS14 hS20
 refine va rfl rfl ?_
 refine nsr ?_
 refine vm rfl rfl ?_
 refine wl_val wn rfl (rv_lss rfl rfl) ?_
 refine nq ?_
 refine wc_cond rfl (fun hb24 => ?_) (fun hb24 => ?_)
 ·have h25 := cond_t hb24 h17
  refine sr ?_
  refine wl_val wn rfl (rv_assign (v := .int .i64 (-1)) rfl) ?_
  refine nq ?_
  refine rr ?_
  obtain rfl := oi h25
  have hS26 : SH _ _ _ _ _ [] := SH.sublist hS23 (.cons _ .slnil)
  exact qe_ret (vs := [_]) Tryz.results63 ⟨rfl, trivial⟩ ⟨K18, rfl, hS26, (by decide : rng64 (-1))⟩
 ·have h25 := cond_f hb24 h17
  refine wc_skip ?_
  refine qr ?_
  refine wl_val wn rfl (rv_fieldAddr ff115_2 rfl) ?_
  refine wl_val wn rfl (rv_loadm1 tf113 rfl (.head _) hS23 rfl) ?_
  refine vm rfl rfl ?_
  obtain ⟨r27, hx28, h29⟩ := ob h25
  refine wl_call wn rfl (rt_call (vs := [.slice a6 n7 c8, .int .i64 r15]) co108 rfl) ((ok_laws_szAttrS F) hS23.enter0 (SliceAt.mono hS20.le hs9) hr21 hx28) ?_
  rintro e34 w31 ⟨K30, rfl, hS32, hr33⟩
  refine ⟨_, rfl, ?_⟩
  have hS35 : SH _ _ _ _ _ [_] := SH.call0 hS23 hS32
  refine va rfl rfl ?_
  refine nsr ?_
  refine vm rfl rfl ?_
  refine wl_val wn rfl (rv_lss rfl rfl) ?_
  refine nq ?_
  refine wc_cond rfl (fun hb36 => ?_) (fun hb36 => ?_)
  ·have h37 := cond_t hb36 h29
   refine sr ?_
   refine wl_val wn rfl (rv_assign (v := .int .i64 (-1)) rfl) ?_
   refine nq ?_
   refine rr ?_
   obtain rfl := oi h37
   have hS38 : SH _ _ _ _ _ [] := SH.sublist hS35 (.cons _ .slnil)
   exact qe_ret (vs := [_]) Tryz.results63 ⟨rfl, trivial⟩ ⟨K30, rfl, hS38, (by decide : rng64 (-1))⟩
  ·have h37 := cond_f hb36 h29
   refine wc_skip ?_
   refine qr ?_
   refine vm rfl rfl ?_
   refine va rfl rfl ?_
   refine nq ?_
   refine wc_ret ?_
   obtain rfl := oi h37
   have hS39 : SH _ _ _ _ _ [] := SH.sublist hS35 (.cons _ .slnil)
   exact qe_ret (vs := [_]) Tryz.results63 ⟨rfl, trivial⟩ ⟨K30, rfl, hS39, hr33⟩

theorem ok_laws_szDocS (F : Nat) {w : World} {K : KMap} {a1 : Option Addr} {n2 c3 : Nat} {p0_a : List GDoc} {p1_left : Int} {r : Int} (hS : SH w K [] w K []) (hs4 : SliceAt tGDoc K a1 n2 c3 p0_a) (hr5 : rng64 p1_left) (hm : M.laws_szDocS F p0_a p1_left = some r) :
  Calls Tryz.prog 19 #[.slice a1 n2 c3, .int .i64 p1_left] w fun e w' => ∃ (K' : KMap), e = .returned (.int .i64 r) ∧ SH w K [] w' K' [] ∧ rng64 r := by
 rw [M.laws_szDocS] at hm
 refine calls_in Tryz.func19 rfl Tryz.ntmps19 rfl ?_
 refine sr ?_
 refine wl_val wn rfl (rv_assign (v := .int .i64 0) rfl) ?_
 refine nr ?_
 refine vm rfl rfl ?_
 refine vm rfl rfl ?_
 refine wl_val wn rfl (rv_len (t := tGDoc) Tryz.underlying54 rfl hs4) ?_
 refine wl_val wn rfl (rv_sub rfl rfl) ?_
 refine va rfl rfl ?_
 refine nsr ?_
 refine vm rfl rfl ?_
 refine wl_val wn rfl (rv_lss rfl rfl) ?_
 refine nq ?_
 refine wc_cond rfl (fun hb6 => ?_) (fun hb6 => ?_)
 ·have h7 := cond_t hb6 hm
  refine sr ?_
  refine wl_val wn rfl (rv_assign (v := .int .i64 (-1)) rfl) ?_
  refine nq ?_
  refine rr ?_
  obtain rfl := oi h7
  exact qe_ret (vs := [_]) Tryz.results19 ⟨rfl, trivial⟩ ⟨K, rfl, hS, (by decide : rng64 (-1))⟩
 ·have h7 := cond_f hb6 hm
  refine wc_skip ?_
  refine qs ?_
  refine sr ?_
  refine wl_val wn rfl (rv_assign (v := .int .i64 0) rfl) ?_
  refine nq ?_
  obtain ⟨o8, h9, h10⟩ := ob h7
  refine wc_cutg (fun E' w' => ∃ (s11 : Int) (K12 : KMap), o8 = .inl s11 ∧ E' = [(1, .int .i64 s11)] ∧ SH w K [] w' K12 [] ∧ KLe K K12 ∧ rng64 s11) ?_ ?_
  ·refine wc_block ?_
   obtain ⟨r18, h19, h20⟩ := ob h9
   refine wc_while' (fun (s17 : Int × Int) E' w' => ∃ (K21 : KMap), E' = [(0, .slice a1 n2 c3), (1, .int .i64 s17.1), (5, .int .i64 s17.2)] ∧ SH w K [] w' K21 [] ∧ KLe K K21 ∧ rng64 s17.1 ∧ rng64 s17.2) h19 ⟨K, rfl, hS, (KLe.refl _), (w64_rng _), (by decide : rng64 0)⟩ ⟨rfl, rfl, rfl, trivial⟩ ?_
   rintro s17 _ w23 r27 h28 hx29 ⟨K21, rfl, hS24, hl22, hr25, hr26⟩
   refine wc_seq ?_
   refine sr ?_
   refine vm rfl rfl ?_
   refine vm rfl rfl ?_
   refine wl_val wn rfl (rv_len (t := tGDoc) Tryz.underlying54 rfl (SliceAt.mono hl22 hs4)) ?_
   refine wl_val wn rfl (rv_lss rfl rfl) ?_
   refine nq ?_
   refine wc_cond rfl (fun hb30 => ?_) (fun hb30 => ?_)
   ·have h31 := cond_t hb30 h28
    refine wc_skip ?_
    refine qs ?_
    refine wc_block ?_
    refine sr ?_
    refine vm rfl rfl ?_
    refine vm rfl rfl ?_
    obtain ⟨x32, hx33, h34⟩ := ob h31
    refine wl_indexAddr (t := tGDoc) wn rfl Tryz.underlying54 tf115 rfl rfl (SliceAt.mono hl22 hs4) hx33 ?_
    intro b35 o36 u37 hu38 ha39
    obtain ⟨a41, n42, c43, a45, n46, c47, rfl, hr40, hs44, hs48⟩ := hu38
    have ha49 : AtK _ b35 o36 [.int .i64 x32.Id, .slice a41 n42 c43, .slice a45 n46 c47] := ha39
    refine wl_val wn rfl (rv_loadS (cs := [.int .i64 x32.Id, .slice a41 n42 c43, .slice a45 n46 c47]) tf115 rfl hS24 ha49 rfl) ?_
    refine vm rfl rfl ?_
    obtain ⟨r50, hx51, h52⟩ := ob h34
    refine wl_call wn rfl (rt_call (vs := [.agg #[.int .i64 x32.Id, .slice a41 n42 c43, .slice a45 n46 c47], .int .i64 s17.1]) co63 rfl) ((ok_laws_szDoc F) hS24.enter0 hr40 hs44 hs48 hr25 hx51) ?_
    rintro e57 w54 ⟨K53, rfl, hS55, hr56⟩
    refine ⟨_, rfl, ?_⟩
    have hS58 : SH _ _ _ _ _ [] := SH.call0 hS24 hS55
    refine va rfl rfl ?_
    refine nr ?_
    refine vm rfl rfl ?_
    refine wl_val wn rfl (rv_lss rfl rfl) ?_
    refine nq ?_
    refine wc_cond rfl (fun hb59 => ?_) (fun hb59 => ?_)
    ·have h60 := cond_t hb59 h52
     refine sr ?_
     refine wl_val wn rfl (rv_assign (v := .int .i64 (-1)) rfl) ?_
     refine nq ?_
     refine wc_ret ?_
     refine qe_block_ret ?_
     refine qe_then_ret ?_
     refine qe_then_ret ?_
     obtain rfl := oi h60
     have e61 := hx29 _ rfl
     subst e61
     refine qe_block_ret ?_
     refine qe_then_ret ?_
     obtain rfl := oi h20
     refine qe_then_ret ?_
     obtain rfl := oi h10
     exact qe_ret (vs := [_]) Tryz.results19 ⟨rfl, trivial⟩ ⟨K53, rfl, hS58, (by decide : rng64 (-1))⟩
    ·have h60 := cond_f hb59 h52
     refine wc_skip ?_
     refine qe_block ?_
     refine qe_seq ?_
     refine wc_region ?_
     refine vm rfl rfl ?_
     refine wl_val wn rfl (rv_add rfl rfl) ?_
     refine va rfl rfl ?_
     refine wl_nil ?_
     obtain rfl := oi h60
     exact qe_mid' ⟨_, rfl, K53, rfl, hS58, (hl22.trans hS55.le), hr56, (w64_rng _)⟩ ⟨rfl, rfl, rfl, trivial⟩
   ·have h31 := cond_f hb30 h28
    refine wc_exit ?_
    refine qe_then_exit ?_
    refine qe_then_exit ?_
    obtain rfl := oi h31
    have e62 := hx29 _ rfl
    subst e62
    refine qe_block_eq ?_
    obtain rfl := oi h20
    exact qe_mid' ⟨_, K21, rfl, rfl, hS24, hl22, hr25⟩ ⟨rfl, trivial⟩
  ·rintro _ w14 ⟨s11, K12, rfl, rfl, hS15, hl13, hr16⟩
   refine qr ?_
   refine vm rfl rfl ?_
   refine va rfl rfl ?_
   refine nq ?_
   refine wc_ret ?_
   obtain rfl := oi h10
   exact qe_ret (vs := [_]) Tryz.results19 ⟨rfl, trivial⟩ ⟨K12, rfl, hS15, hr16⟩

theorem ok_laws_szIntS (F : Nat) {w : World} {K : KMap} {a1 : Option Addr} {n2 c3 : Nat} {p0_a : List Int} {p1_left : Int} {r : Int} (hS : SH w K [] w K []) (hs4 : SliceAt tInt K a1 n2 c3 p0_a) (hr5 : rng64 p1_left) (hm : M.laws_szIntS F p0_a p1_left = some r) :
  Calls Tryz.prog 182 #[.slice a1 n2 c3, .int .i64 p1_left] w fun e w' => ∃ (K' : KMap), e = .returned (.int .i64 r) ∧ SH w K [] w' K' [] ∧ rng64 r := by
 rw [M.laws_szIntS] at hm
 refine calls_in Tryz.func182 rfl Tryz.ntmps182 rfl ?_
 refine sr ?_
 refine wl_val wn rfl (rv_assign (v := .int .i64 0) rfl) ?_
 refine nr ?_
 refine vm rfl rfl ?_
 refine vm rfl rfl ?_
 refine wl_val wn rfl (rv_len (t := tInt) Tryz.underlying37 rfl hs4) ?_
 refine wl_val wn rfl (rv_sub rfl rfl) ?_
 refine va rfl rfl ?_
 refine nsr ?_
 refine vm rfl rfl ?_
 refine wl_val wn rfl (rv_lss rfl rfl) ?_
 refine nq ?_
 refine wc_cond rfl (fun hb6 => ?_) (fun hb6 => ?_)
 ·have h7 := cond_t hb6 hm
  refine sr ?_
  refine wl_val wn rfl (rv_assign (v := .int .i64 (-1)) rfl) ?_
  refine nq ?_
  refine rr ?_
  obtain rfl := oi h7
  exact qe_ret (vs := [_]) Tryz.results182 ⟨rfl, trivial⟩ ⟨K, rfl, hS, (by decide : rng64 (-1))⟩
 ·have h7 := cond_f hb6 hm
  refine wc_skip ?_
  refine qr ?_
  refine vm rfl rfl ?_
  refine va rfl rfl ?_
  refine nq ?_
  refine wc_ret ?_
  obtain rfl := oi h7
  exact qe_ret (vs := [_]) Tryz.results182 ⟨rfl, trivial⟩ ⟨K, rfl, hS, (w64_rng _)⟩

theorem ok_laws_szPost (F : Nat) {w : World} {K : KMap} {a2 : Option Addr} {n3 c4 : Nat} {p0_a : GPost} {p1_left : Int} {r : Int} (hS : SH w K [] w K []) (hr1 : rng64 p0_a.Doc) (hs5 : SliceAt tInt K a2 n3 c4 p0_a.At) (hr6 : rng64 p1_left) (hm : M.laws_szPost F p0_a p1_left = some r) :
  Calls Tryz.prog 176 #[.agg #[.int .i64 p0_a.Doc, .slice a2 n3 c4], .int .i64 p1_left] w fun e w' => ∃ (K' : KMap), e = .returned (.int .i64 r) ∧ SH w K [] w' K' [] ∧ rng64 r := by
 rw [M.laws_szPost] at hm
 refine calls_in Tryz.func176 rfl Tryz.ntmps176 rfl ?_
 refine sr ?_
 refine wl_box wn rfl rfl hS ?_
 intro g7 w8 hS9
 have hS10 : SH _ _ _ _ _ [obj g7 [.int .i64 p0_a.Doc, .slice a2 n3 c4] 216] := hS9
 refine wl_val wn rfl (rv_assign (v := .int .i64 0) rfl) ?_
 refine nr ?_
 refine wl_val wn rfl (rv_fieldAddr ff216_1 rfl) ?_
 refine wl_val wn rfl (rv_loadm1 tf37 rfl (.head _) hS10 rfl) ?_
 refine vm rfl rfl ?_
 obtain ⟨r11, hx12, h13⟩ := ob hm
 refine wl_call wn rfl (rt_call (vs := [.slice a2 n3 c4, .int .i64 p1_left]) co182 rfl) ((ok_laws_szIntS F) hS10.enter0 hs5 hr6 hx12) ?_
 rintro e18 w15 ⟨K14, rfl, hS16, hr17⟩
 refine ⟨_, rfl, ?_⟩
 have hS19 : SH _ _ _ _ _ [_] := SH.call0 hS10 hS16
 refine va rfl rfl ?_
 refine nsr ?_
 refine vm rfl rfl ?_
 refine wl_val wn rfl (rv_lss rfl rfl) ?_
 refine nq ?_
 refine wc_cond rfl (fun hb20 => ?_) (fun hb20 => ?_)
 ·have h21 := cond_t hb20 h13
  refine sr ?_
  refine wl_val wn rfl (rv_assign (v := .int .i64 (-1)) rfl) ?_
  refine nq ?_
  refine rr ?_
  obtain rfl := oi h21
  have hS22 : SH _ _ _ _ _ [] := SH.sublist hS19 (.cons _ .slnil)
  exact qe_ret (vs := [_]) Tryz.results176 ⟨rfl, trivial⟩ ⟨K14, rfl, hS22, (by decide : rng64 (-1))⟩
 ·have h21 := cond_f hb20 h13
  refine wc_skip ?_
  refine qr ?_
  refine vm rfl rfl ?_
  refine va rfl rfl ?_
  refine nq ?_
  refine wc_ret ?_
  obtain rfl := oi h21
  have hS23 : SH _ _ _ _ _ [] := SH.sublist hS19 (.cons _ .slnil)
  exact qe_ret (vs := [_]) Tryz.results176 ⟨rfl, trivial⟩ ⟨K14, rfl, hS23, hr17⟩
end Go.Proofs.YtdcmmhjhffcnhaaGreat
