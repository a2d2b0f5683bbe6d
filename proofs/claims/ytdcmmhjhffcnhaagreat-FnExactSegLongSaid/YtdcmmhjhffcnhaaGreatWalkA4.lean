/-
 Walks of the functions. Printed by gen.py.
-/
import Derived.Test.YtdcmmhjhffcnhaaGreatWalkA3
set_option linter.unusedVariables false
set_option maxRecDepth 100000
namespace Go.Proofs.YtdcmmhjhffcnhaaGreat
open Go Go.Fk Go.RowKit

set_option maxHeartbeats 2000000 in
theorem ok_spec_l2Syn (F : Nat) {w : World} {K : KMap} {a1 : Option Addr} {n2 c3 : Nat} {a5 : Option Addr} {n6 c7 : Nat} {a9 : Option Addr} {n10 c11 : Nat} {p0_c : GConf} {p1_list : List GTerm} {r : Int} (hS : SH w K [] w K []) (hs4 : SliceAt tStr K a1 n2 c3 p0_c.Stops) (hs8 : SliceAt tGSyn K a5 n6 c7 p0_c.Syns) (hs12 : SliceAt tGTerm K a9 n10 c11 p1_list) (hm : M.spec_l2Syn F p0_c p1_list = some r) :
  Calls Tryz.prog 170 #[.agg #[.slice a1 n2 c3, .slice a5 n6 c7], .slice a9 n10 c11] w fun e w' => ∃ (K' : KMap), e = .returned (.int .i64 r) ∧ SH w K [] w' K' [] ∧ rng64 r := by
 rw [M.spec_l2Syn] at hm
 refine calls_in Tryz.func170 rfl Tryz.ntmps170 rfl ?_
 refine sr ?_
 refine wl_box wn rfl rfl hS ?_
 intro g13 w14 hS15
 have hS16 : SH _ _ _ _ _ [obj g13 [.slice a1 n2 c3, .slice a5 n6 c7] 26] := hS15
 refine wl_val wn rfl (rv_assign (v := .int .i64 0) rfl) ?_
 refine nr ?_
 refine wl_val wn rfl (rv_assign (v := .int .i64 (-1)) rfl) ?_
 refine nsr ?_
 refine wl_val wn rfl (rv_assign (v := .int .i64 0) rfl) ?_
 refine nq ?_
 obtain ⟨o17, h18, h19⟩ := ob hm
 refine wc_cutg (fun E' w' => ∃ (K20 : KMap), E' = [(5, .int .i64 o17)] ∧ SH w K [] w' K20 [] ∧ KLe K K20 ∧ rng64 o17) ?_ ?_
 ·refine wc_block ?_
  obtain ⟨r26, h27, h28⟩ := ob h18
  refine wc_while' (fun (s25 : Int × Int) E' w' => ∃ (K29 : KMap), E' = [(1, .slice a9 n10 c11), (2, .pointer (some ⟨g13, 0, none⟩)), (5, .int .i64 s25.1), (6, .int .i64 s25.2)] ∧ SH w K [] w' K29 [obj g13 [.slice a1 n2 c3, .slice a5 n6 c7] 26] ∧ KLe K K29 ∧ rng64 s25.1 ∧ rng64 s25.2) h27 ⟨K, rfl, hS16, (KLe.refl _), (by decide : rng64 (-1)), (by decide : rng64 0)⟩ ⟨rfl, rfl, rfl, rfl, trivial⟩ ?_
  rintro s25 _ w31 r35 h36 hx37 ⟨K29, rfl, hS32, hl30, hr33, hr34⟩
  refine wc_seq ?_
  refine sr ?_
  refine vm rfl rfl ?_
  refine wl_val wn rfl (rv_fieldAddr ff26_1 rfl) ?_
  refine wl_val wn rfl (rv_loadm1 tf24 rfl (.head _) hS32 rfl) ?_
  refine wl_val wn rfl (rv_len (t := tGSyn) Tryz.underlying24 rfl (SliceAt.mono hl30 hs8)) ?_
  refine wl_val wn rfl (rv_lss rfl rfl) ?_
  refine nq ?_
  refine wc_cond rfl (fun hb38 => ?_) (fun hb38 => ?_)
  ·have h39 := cond_t hb38 h36
   refine wc_skip ?_
   refine qs ?_
   refine wc_block ?_
   refine wc_seq ?_
   obtain ⟨o40, h41, h42⟩ := ob h39
   refine wc_cutg (fun E' w' => ∃ (K43 : KMap), E' = [(1, .slice a9 n10 c11), (2, .pointer (some ⟨g13, 0, none⟩)), (5, .int .i64 s25.1), (6, .int .i64 s25.2), (42, .bool o40)] ∧ SH w K [] w' K43 [obj g13 [.slice a1 n2 c3, .slice a5 n6 c7] 26] ∧ KLe K29 K43) ?_ ?_
   ·refine wc_quiet mixed (by kernel_rfl) hS32 ?_
    refine qm rfl rfl ?_
    refine wq_val wn rfl (fun _ _ => (rv_fieldAddr ff26_1 rfl)) ?_
    refine wq_val wn rfl (rq_loadm1 tf24 rfl (.head _) rfl) ?_
    refine qm rfl rfl ?_
    obtain ⟨x47, hx48, h49⟩ := ob h41
    refine wq_indexAddr (t := tGSyn) wn rfl Tryz.underlying24 tf106 rfl rfl (SliceAt.mono hl30 hs8) hx48 ?_
    intro b50 o51 u52 hu53 ha54
    obtain ⟨a55, n56, c57, rfl, hs58, hl59⟩ := hu53
    have ha60 : AtK _ b50 o51 [.slice a55 n56 c57, sv x47.To] := ha54
    refine wq_val wn rfl (fun _ _ => (rv_fieldAddr ff106_0 rfl)) ?_
    refine wq_val wn rfl (rq_load1 tf23 rfl (ha60 0 _ rfl)) ?_
    obtain ⟨r61, hx62, h63⟩ := ob h49
    refine wq_call (v := .bool r61) wn rfl (fun _ => rt_call (vs := [.slice a9 n10 c11, .slice a55 n56 c57]) co180 rfl) (fun w66 ⟨K64, hS65, hl67⟩ => ((ok_spec_l2Begins F) hS65.enter0 (SliceAt.mono (hl30.trans hl67) hs12) (SliceAt.mono hl67 hs58) hx62).mono fun e w' ⟨K', he, hS'⟩ => ⟨he, K', hS65.call0 hS', hl67.trans hS'.le⟩) ?_
    refine qm rfl rfl ?_
    rcases bool_tf (r61) with hb68 | hb68
    ·have h69 := cond_t hb68 h63
     refine wq_val (wg rfl rfl hb68) rfl (fun _ _ => (rv_move rfl)) ?_
     refine wq_val (wg rfl rfl hb68) rfl (fun _ _ => (rv_lss rfl rfl)) ?_
     refine wq_val (wg rfl rfl hb68) rfl (fun _ _ => (rv_move rfl)) ?_
     rcases bool_tf (decide (s25.1 < (0 : Int))) with hb70 | hb70
     ·have h71 := cond_t hb70 h69
      refine wq_un (ug rfl rfl hb70) rfl ?_
      refine wq_un (ug rfl rfl hb70) rfl ?_
      refine wq_un (ug rfl rfl hb70) rfl ?_
      refine wq_un (ug rfl rfl hb70) rfl ?_
      refine wq_un (ug rfl rfl hb70) rfl ?_
      refine wq_un (ug rfl rfl hb70) rfl ?_
      refine wq_un (ug rfl rfl hb70) rfl ?_
      refine wq_un (ug rfl rfl hb70) rfl ?_
      refine wq_un (ug rfl rfl hb70) rfl ?_
      refine wq_un (ug rfl rfl hb70) rfl ?_
      refine wq_un (ug rfl rfl hb70) rfl ?_
      refine wq_un (ug rfl rfl hb70) rfl ?_
      refine wq_un (ug rfl rfl hb70) rfl ?_
      refine wq_un (ug rfl rfl hb70) rfl ?_
      refine wq_un (ug rfl rfl hb70) rfl ?_
      refine wq_val (wg rfl rfl hb68) rfl (fun _ _ => (rv_pick_t (v := .bool true) rfl hb70 rfl)) ?_
      refine wq_val wn rfl (fun _ _ => (rv_pick_t rfl hb68 rfl)) ?_
      refine wq_nil ?_
      rintro w73 ⟨K72, hS74, hl75⟩
      obtain rfl := oi h71
      exact qe_mid' ⟨K72, rfl, hS74, hl75⟩ ⟨rfl, rfl, rfl, rfl, rfl, trivial⟩
     ·have h71 := cond_f hb70 h69
      refine wq_val (wg rfl rfl hb70) rfl (fun _ _ => (rv_fieldAddr ff26_1 rfl)) ?_
      refine wq_val (wg rfl rfl hb70) rfl (rq_loadm1 tf24 rfl (.head _) rfl) ?_
      refine wq_val (wg rfl rfl hb70) rfl (fun _ _ => (rv_move rfl)) ?_
      obtain ⟨x76, hx77, h78⟩ := ob h71
      refine wq_indexAddr (t := tGSyn) (wg rfl rfl hb70) rfl Tryz.underlying24 tf106 rfl rfl (SliceAt.mono hl30 hs8) hx77 ?_
      intro b79 o80 u81 hu82 ha83
      obtain ⟨a84, n85, c86, rfl, hs87, hl88⟩ := hu82
      have ha89 : AtK _ b79 o80 [.slice a84 n85 c86, sv x76.To] := ha83
      refine wq_val (wg rfl rfl hb70) rfl (fun _ _ => (rv_fieldAddr ff106_0 rfl)) ?_
      refine wq_val (wg rfl rfl hb70) rfl (rq_load1 tf23 rfl (ha89 0 _ rfl)) ?_
      refine wq_val (wg rfl rfl hb70) rfl (fun _ _ => (rv_len (t := tStr) Tryz.underlying23 rfl hs87)) ?_
      refine wq_val (wg rfl rfl hb70) rfl (fun _ _ => (rv_fieldAddr ff26_1 rfl)) ?_
      refine wq_val (wg rfl rfl hb70) rfl (rq_loadm1 tf24 rfl (.head _) rfl) ?_
      refine wq_val (wg rfl rfl hb70) rfl (fun _ _ => (rv_move rfl)) ?_
      obtain ⟨x90, hx91, h92⟩ := ob h78
      refine wq_indexAddr (t := tGSyn) (wg rfl rfl hb70) rfl Tryz.underlying24 tf106 rfl rfl (SliceAt.mono hl30 hs8) hx91 ?_
      intro b93 o94 u95 hu96 ha97
      obtain ⟨a98, n99, c100, rfl, hs101, hl102⟩ := hu96
      have ha103 : AtK _ b93 o94 [.slice a98 n99 c100, sv x90.To] := ha97
      refine wq_val (wg rfl rfl hb70) rfl (fun _ _ => (rv_fieldAddr ff106_0 rfl)) ?_
      refine wq_val (wg rfl rfl hb70) rfl (rq_load1 tf23 rfl (ha103 0 _ rfl)) ?_
      refine wq_val (wg rfl rfl hb70) rfl (fun _ _ => (rv_len (t := tStr) Tryz.underlying23 rfl hs101)) ?_
      refine wq_val (wg rfl rfl hb70) rfl (fun _ _ => (rv_gtr rfl rfl)) ?_
      refine wq_val (wg rfl rfl hb68) rfl (fun _ _ => (rv_pick_f rfl hb70 rfl)) ?_
      refine wq_val wn rfl (fun _ _ => (rv_pick_t rfl hb68 rfl)) ?_
      refine wq_nil ?_
      rintro w105 ⟨K104, hS106, hl107⟩
      obtain rfl := oi h92
      exact qe_mid' ⟨K104, rfl, hS106, hl107⟩ ⟨rfl, rfl, rfl, rfl, rfl, trivial⟩
    ·have h69 := cond_f hb68 h63
     refine wq_un (ug rfl rfl hb68) rfl ?_
     refine wq_un (ug rfl rfl hb68) rfl ?_
     refine wq_un (ug rfl rfl hb68) rfl ?_
     refine qu rfl rfl rfl ?_
     refine qu rfl rfl rfl ?_
     refine qu rfl rfl rfl ?_
     refine qu rfl rfl rfl ?_
     refine qu rfl rfl rfl ?_
     refine qu rfl rfl rfl ?_
     refine qu rfl rfl rfl ?_
     refine qu rfl rfl rfl ?_
     refine qu rfl rfl rfl ?_
     refine qu rfl rfl rfl ?_
     refine qu rfl rfl rfl ?_
     refine qu rfl rfl rfl ?_
     refine qu rfl rfl rfl ?_
     refine qu rfl rfl rfl ?_
     refine qu rfl rfl rfl ?_
     refine wq_un (ug rfl rfl hb68) rfl ?_
     refine wq_val wn rfl (fun _ _ => (rv_pick_f (v := .bool false) rfl hb68 rfl)) ?_
     refine wq_nil ?_
     rintro w109 ⟨K108, hS110, hl111⟩
     obtain rfl := oi h69
     exact qe_mid' ⟨K108, rfl, hS110, hl111⟩ ⟨rfl, rfl, rfl, rfl, rfl, trivial⟩
   ·rintro _ w45 ⟨K43, rfl, hS46, hl44⟩
    refine qe_seq ?_
    refine wc_cond rfl (fun hb112 => ?_) (fun hb112 => ?_)
    ·have h113 := cond_t hb112 h42
     refine wc_region ?_
     refine vm rfl rfl ?_
     refine va rfl rfl ?_
     refine nb ?_
     refine qe_seq ?_
     refine wc_region ?_
     refine vm rfl rfl ?_
     refine wl_val wn rfl (rv_add rfl rfl) ?_
     refine va rfl rfl ?_
     refine wl_nil ?_
     obtain rfl := oi h113
     exact qe_mid' ⟨_, rfl, K43, rfl, hS46, (hl30.trans hl44), hr34, (w64_rng _)⟩ ⟨rfl, rfl, rfl, rfl, trivial⟩
    ·have h113 := cond_f hb112 h42
     refine wc_skip ?_
     refine qe_block ?_
     refine qe_seq ?_
     refine wc_region ?_
     refine vm rfl rfl ?_
     refine wl_val wn rfl (rv_add rfl rfl) ?_
     refine va rfl rfl ?_
     refine wl_nil ?_
     obtain rfl := oi h113
     exact qe_mid' ⟨_, rfl, K43, rfl, hS46, (hl30.trans hl44), hr33, (w64_rng _)⟩ ⟨rfl, rfl, rfl, rfl, trivial⟩
  ·have h39 := cond_f hb38 h36
   refine wc_exit ?_
   refine qe_then_exit ?_
   refine qe_then_exit ?_
   obtain rfl := oi h39
   have e114 := hx37 _ rfl
   subst e114
   refine qe_block_eq ?_
   obtain rfl := oi h28
   have hS115 : SH _ _ _ _ _ [] := SH.sublist hS32 (.cons _ .slnil)
   exact qe_mid' ⟨K29, rfl, hS115, hl30, hr33⟩ ⟨rfl, trivial⟩
 ·rintro _ w22 ⟨K20, rfl, hS23, hl21, hr24⟩
  refine qr ?_
  refine vm rfl rfl ?_
  refine va rfl rfl ?_
  refine nq ?_
  refine wc_ret ?_
  obtain rfl := oi h19
  exact qe_ret (vs := [_]) Tryz.results170 ⟨rfl, trivial⟩ ⟨K20, rfl, hS23, hr24⟩

set_option maxHeartbeats 2000000 in
theorem ok_spec_l2Terms (F : Nat) {w : World} {K : KMap} {a1 : Option Addr} {n2 c3 : Nat} {a5 : Option Addr} {n6 c7 : Nat} {p0_c : GConf} {p1_s : Str} {r : (List GTerm)} (hS : SH w K [] w K []) (hs4 : SliceAt tStr K a1 n2 c3 p0_c.Stops) (hs8 : SliceAt tGSyn K a5 n6 c7 p0_c.Syns) (hl9 : p1_s.length ≤ maxLen) (hm : M.spec_l2Terms F p0_c p1_s = some r) :
  Calls Tryz.prog 148 #[.agg #[.slice a1 n2 c3, .slice a5 n6 c7], sv p1_s] w fun e w' => ∃ (a_1 : Option Addr) (n_2 c_3 : Nat) (K' : KMap), e = .returned (.slice a_1 n_2 c_3) ∧ SH w K [] w' K' [tail (.slice a_1 n_2 c_3) 46 2] ∧ SliceAt tGTerm K' a_1 n_2 c_3 r := by
 rw [M.spec_l2Terms] at hm
 refine calls_in Tryz.func148 rfl Tryz.ntmps148 rfl ?_
 refine sr ?_
 refine wl_box wn rfl rfl hS ?_
 intro g10 w11 hS12
 have hS13 : SH _ _ _ _ _ [obj g10 [.slice a1 n2 c3, .slice a5 n6 c7] 26] := hS12
 refine wl_val wn rfl (rv_assign (v := .slice none 0 0) rfl) ?_
 refine nr ?_
 refine wl_buildSlice0 tGTerm wn rfl Tryz.underlying38 tf46 hS13 ?_
 intro a14 w15 K16 hl17 hs18 hS19
 refine va rfl rfl ?_
 refine nr ?_
 refine wl_val wn rfl (rv_loadmS (ds := [.slice a1 n2 c3, .slice a5 n6 c7]) tf26 rfl (.tail _ (.head _)) hS19 rfl rfl) ?_
 refine vm rfl rfl ?_
 obtain ⟨r20, hx21, h22⟩ := ob hm
 refine wl_call wn rfl (rt_call (vs := [.agg #[.slice a1 n2 c3, .slice a5 n6 c7], sv p1_s]) co169 rfl) ((ok_spec_l2Plain F) hS19.enter0 (SliceAt.mono hl17 hs4) (SliceAt.mono hl17 hs8) hl9 hx21) ?_
 rintro e30 w24 ⟨a26, n27, c28, K23, rfl, hS25, hs29⟩
 refine ⟨_, rfl, ?_⟩
 have hS31 : SH _ _ _ _ _ [_, _, _] := SH.call0 hS19 hS25
 refine va rfl rfl ?_
 refine ns ?_
 obtain ⟨o32, h33, h34⟩ := ob h22
 refine wc_cutg (fun E' w' => ∃ (a39 : Option Addr) (n40 c41 : Nat) (K35 : KMap), E' = [(5, .slice a39 n40 c41)] ∧ SH w K [] w' K35 [tail (.slice a39 n40 c41) 46 2] ∧ KLe K23 K35 ∧ SliceAt tGTerm K35 a39 n40 c41 o32) ?_ ?_
 ·refine wc_block ?_
  obtain ⟨r44, h45, h46⟩ := ob h33
  have hS59 : SH _ _ _ _ _ [_, _, _] := SH.front (p := [_]) hS31
  have hS60 : SH _ _ _ _ _ [_, _, _] := SH.front (p := [_, _]) hS59
  have hS61 : SH _ _ _ _ _ [_, _] := SH.sublist hS60 (.cons_cons _ (.cons_cons _ (.cons _ .slnil)))
  refine wc_while' (fun (s43 : (List GTerm) × (List GTerm)) E' w' => ∃ (a51 : Option Addr) (n52 c53 : Nat) (a55 : Option Addr) (n56 c57 : Nat) (K47 : KMap), E' = [(2, .pointer (some ⟨g10, 0, none⟩)), (5, .slice a51 n52 c53), (6, .slice a55 n56 c57)] ∧ SH w K [] w' K47 [obj g10 [.slice a1 n2 c3, .slice a5 n6 c7] 26, tail (.slice a51 n52 c53) 46 2] ∧ KLe K23 K47 ∧ SliceAt tGTerm K47 a51 n52 c53 s43.1 ∧ SliceAt tGTerm K47 a55 n56 c57 s43.2) h45 ⟨a14, 0, 0, a26, n27, c28, K23, rfl, hS61, (KLe.refl _), (SliceAt.mono hS25.le hs18), hs29⟩ ⟨rfl, rfl, rfl, trivial⟩ ?_
  rintro s43 _ w49 r62 h63 hx64 ⟨a51, n52, c53, a55, n56, c57, K47, rfl, hS50, hl48, hs54, hs58⟩
  refine wc_seq ?_
  refine sr ?_
  refine vm rfl rfl ?_
  refine wl_val wn rfl (rv_len (t := tGTerm) Tryz.underlying38 rfl hs58) ?_
  refine wl_val wn rfl (rv_gtr rfl rfl) ?_
  refine nq ?_
  refine wc_cond rfl (fun hb65 => ?_) (fun hb65 => ?_)
  ·have h66 := cond_t hb65 h63
   refine wc_skip ?_
   refine qe_seq ?_
   refine wc_block ?_
   refine sr ?_
   refine wl_val wn rfl (rv_loadmS (ds := [.slice a1 n2 c3, .slice a5 n6 c7]) tf26 rfl (.head _) hS50 rfl rfl) ?_
   refine vm rfl rfl ?_
   obtain ⟨r67, hx68, h69⟩ := ob h66
   refine wl_call wn rfl (rt_call (vs := [.agg #[.slice a1 n2 c3, .slice a5 n6 c7], .slice a55 n56 c57]) co170 rfl) ((ok_spec_l2Syn F) hS50.enter0 (SliceAt.mono ((hl17.trans hS25.le).trans hl48) hs4) (SliceAt.mono ((hl17.trans hS25.le).trans hl48) hs8) hs58 hx68) ?_
   rintro e74 w71 ⟨K70, rfl, hS72, hr73⟩
   refine ⟨_, rfl, ?_⟩
   have hS75 : SH _ _ _ _ _ [_, _] := SH.call0 hS50 hS72
   refine va rfl rfl ?_
   refine nsr ?_
   refine vm rfl rfl ?_
   refine wl_val wn rfl (rv_lss rfl rfl) ?_
   refine nq ?_
   refine wc_cond rfl (fun hb76 => ?_) (fun hb76 => ?_)
   ·have h77 := cond_t hb76 h69
    refine sr ?_
    refine vm rfl rfl ?_
    refine vm rfl rfl ?_
    obtain ⟨x78, hx79, h80⟩ := ob h77
    refine wl_indexAddr (t := tGTerm) wn rfl Tryz.underlying38 tf46 rfl rfl (SliceAt.mono hS72.le hs58) hx79 ?_
    intro b81 o82 u83 hu84 ha85
    obtain ⟨rfl, hl86, hr87⟩ := hu84
    have ha88 : AtK _ b81 o82 [sv x78.Text, .int .i64 x78.At] := ha85
    refine wl_val wn rfl (rv_loadS (cs := [sv x78.Text, .int .i64 x78.At]) tf46 rfl hS75 ha88 rfl) ?_
    refine wl_buildSlice (t := tGTerm) (n := 1) (pv := [(0, .agg #[sv x78.Text, .int .i64 x78.At])]) (cs := [sv x78.Text, .int .i64 x78.At]) (xs := [x78]) wn rfl Tryz.underlying38 tf46 rfl rfl rfl (by kernel_rfl) rfl rfl (lit_cons (u := .agg #[sv x78.Text, .int .i64 x78.At]) (z := x78) ⟨rfl, hl86, hr87⟩ lit_nil) hS75 ?_
    intro a89 w90 K91 hl92 hs93 hS94
    have hS95 : SH _ _ _ _ _ [_, _, _] := SH.front (p := [_, _]) hS94
    obtain ⟨x96, hx97, h98⟩ := ob h80
    refine wl_append (t := tGTerm) wn rfl Tryz.underlying38 tf46 rfl rfl rfl rfl rfl (SliceAt.mono (hS72.le.trans hl92) hs54) hs93 hx97 hS95 ?_
    intro a99 n100 c101 w102 K103 hl104 hs105 hS106
    refine va rfl rfl ?_
    refine nr ?_
    refine vm rfl rfl ?_
    obtain ⟨x107, hx108, h109⟩ := ob h98
    refine wl_sl_l (t := tGTerm) wn rfl Tryz.underlying38 tf46 rfl rfl (SliceAt.mono ((hS72.le.trans hl92).trans hl104) hs58) hx108 ?_
    intro a110 n111 c112 hs113
    refine va rfl rfl ?_
    refine nq ?_
    refine wc_exit ?_
    refine qe_then_exit ?_
    refine qe_block_eq ?_
    obtain rfl := oi h109
    have hS114 : SH _ _ _ _ _ [_, _, _] := SH.front (p := [_, _]) hS106
    have hS115 : SH _ _ _ _ _ [_, _] := SH.sublist hS114 (.cons_cons _ (.cons_cons _ (.cons _ .slnil)))
    exact qe_mid' ⟨_, rfl, a99, n100, c101, a110, n111, c112, K103, rfl, hS115, (((hl48.trans hS72.le).trans hl92).trans hl104), hs105, hs113⟩ ⟨rfl, rfl, rfl, trivial⟩
   ·have h77 := cond_f hb76 h69
    refine wc_skip ?_
    refine qs ?_
    refine wc_held (fun w' => Holds K70 w' ∧ HasObj g10 [.slice a1 n2 c3, .slice a5 n6 c7] w') (fun w' => True) 15 [] mixed ?_
    have hS117 := SH.drew hS75
    refine wg_val (i := 0) (listed' := #[true, false, false, false, false, false, false, false, false, false, false, false, false, false, false]) (fun _ => True) rfl (by kernel_rfl) (pk_then (pk_block (pk_then (pk_block (pk_then (pk_then pk_body)))))) (by kernel_rfl) rfl (by kernel_rfl) (by kernel_rfl) rfl (.inl fun _ _ => trivial) ⟨⟨hS117.hasK (KLe.refl _), hS117.hasObj (.head _)⟩, (fun _ => trivial), by decide⟩ wn rfl (fun _ _ => (rv_move rfl)) ?_
    refine wg_val (i := 1) (listed' := #[true, true, false, false, false, false, false, false, false, false, false, false, false, false, false]) (fun _ => True) rfl (by kernel_rfl) (pk_then (pk_block (pk_then (pk_block (pk_then (pk_then pk_body)))))) (by kernel_rfl) rfl (by kernel_rfl) (by kernel_rfl) rfl (.inl fun _ _ => trivial) ⟨⟨hS117.hasK (KLe.refl _), hS117.hasObj (.head _)⟩, (fun _ => trivial), by decide⟩ wn rfl (fun _ _ => (rv_fieldAddr ff26_1 rfl)) ?_
    refine wg_val (i := 2) (listed' := #[true, true, true, false, false, false, false, false, false, false, false, false, false, false, false]) (HasObj g10 [.slice a1 n2 c3, .slice a5 n6 c7]) rfl (by kernel_rfl) (pk_then (pk_block (pk_then (pk_block (pk_then (pk_then pk_body)))))) (by kernel_rfl) rfl (by kernel_rfl) (by kernel_rfl) rfl (.inl fun _ h => h.2) ⟨⟨hS117.hasK (KLe.refl _), hS117.hasObj (.head _)⟩, (fun _ => trivial), by decide⟩ wn rfl (fun _ h => rh_loadm1 tf24 rfl rfl h) ?_
    refine wg_val (i := 3) (listed' := #[true, true, true, true, false, false, false, false, false, false, false, false, false, false, false]) (fun _ => True) rfl (by kernel_rfl) (pk_then (pk_block (pk_then (pk_block (pk_then (pk_then pk_body)))))) (by kernel_rfl) rfl (by kernel_rfl) (by kernel_rfl) rfl (.inl fun _ _ => trivial) ⟨⟨hS117.hasK (KLe.refl _), hS117.hasObj (.head _)⟩, (fun _ => trivial), by decide⟩ wn rfl (fun _ _ => (rv_move rfl)) ?_
    obtain ⟨x118, hx119, h120⟩ := ob h77
    refine wg_indexAddr (t := tGSyn) (j := 4) (listed' := #[true, true, true, true, true, false, false, false, false, false, false, false, false, false, false]) rfl (by kernel_rfl) (pk_then (pk_block (pk_then (pk_block (pk_then (pk_then pk_body)))))) (by kernel_rfl) rfl (by kernel_rfl) (by kernel_rfl) rfl ⟨⟨hS117.hasK (KLe.refl _), hS117.hasObj (.head _)⟩, (fun _ => trivial), by decide⟩ wn rfl Tryz.underlying24 tf106 rfl rfl (SliceAt.mono (((hl17.trans hS25.le).trans hl48).trans hS72.le) hs8) hx119 ?_
    intro b121 o122 u123 hu124 ha125
    obtain ⟨a126, n127, c128, rfl, hs129, hl130⟩ := hu124
    have ha131 : AtK _ b121 o122 [.slice a126 n127 c128, sv x118.To] := ha125
    refine wg_val (i := 5) (listed' := #[true, true, true, true, true, true, false, false, false, false, false, false, false, false, false]) (fun _ => True) rfl (by kernel_rfl) (pk_then (pk_block (pk_then (pk_block (pk_then (pk_then pk_body)))))) (by kernel_rfl) rfl (by kernel_rfl) (by kernel_rfl) rfl (.inl fun _ _ => trivial) ⟨⟨hS117.hasK (KLe.refl _), hS117.hasObj (.head _)⟩, (fun _ => trivial), by decide⟩ wn rfl (fun _ _ => (rv_fieldAddr ff106_1 rfl)) ?_
    refine wg_val (i := 6) (listed' := #[true, true, true, true, true, true, true, false, false, false, false, false, false, false, false]) (Holds K70) rfl (by kernel_rfl) (pk_then (pk_block (pk_then (pk_block (pk_then (pk_then pk_body)))))) (by kernel_rfl) rfl (by kernel_rfl) (by kernel_rfl) rfl (.inl fun _ h => h.1) ⟨⟨hS117.hasK (KLe.refl _), hS117.hasObj (.head _)⟩, (fun _ => trivial), by decide⟩ wn rfl (fun _ h => rh_load1 tf9 rfl (ha131 1 _ rfl) h) ?_
    refine wg_val (i := 7) (listed' := #[true, true, true, true, true, true, true, true, false, false, false, false, false, false, false]) (fun _ => True) rfl (by kernel_rfl) (pk_then (pk_block (pk_then (pk_block (pk_then (pk_then pk_body)))))) (by kernel_rfl) rfl (by kernel_rfl) (by kernel_rfl) rfl (.inl fun _ _ => trivial) ⟨⟨hS117.hasK (KLe.refl _), hS117.hasObj (.head _)⟩, (fun _ => trivial), by decide⟩ wn rfl (fun _ _ => (rv_move rfl)) ?_
    obtain ⟨x132, hx133, h134⟩ := ob h120
    refine wg_indexAddr (t := tGTerm) (j := 8) (listed' := #[true, true, true, true, true, true, true, true, true, false, false, false, false, false, false]) rfl (by kernel_rfl) (pk_then (pk_block (pk_then (pk_block (pk_then (pk_then pk_body)))))) (by kernel_rfl) rfl (by kernel_rfl) (by kernel_rfl) rfl ⟨⟨hS117.hasK (KLe.refl _), hS117.hasObj (.head _)⟩, (fun _ => trivial), by decide⟩ wn rfl Tryz.underlying38 tf46 rfl rfl (SliceAt.mono hS72.le hs58) hx133 ?_
    intro b135 o136 u137 hu138 ha139
    obtain ⟨rfl, hl140, hr141⟩ := hu138
    have ha142 : AtK _ b135 o136 [sv x132.Text, .int .i64 x132.At] := ha139
    refine wg_val (i := 9) (listed' := #[true, true, true, true, true, true, true, true, true, true, false, false, false, false, false]) (fun _ => True) rfl (by kernel_rfl) (pk_then (pk_block (pk_then (pk_block (pk_then (pk_then pk_body)))))) (by kernel_rfl) rfl (by kernel_rfl) (by kernel_rfl) rfl (.inl fun _ _ => trivial) ⟨⟨hS117.hasK (KLe.refl _), hS117.hasObj (.head _)⟩, (fun _ => trivial), by decide⟩ wn rfl (fun _ _ => (rv_fieldAddr ff46_1 rfl)) ?_
    refine wg_val (i := 10) (listed' := #[true, true, true, true, true, true, true, true, true, true, true, false, false, false, false]) (Holds K70) rfl (by kernel_rfl) (pk_then (pk_block (pk_then (pk_block (pk_then (pk_then pk_body)))))) (by kernel_rfl) rfl (by kernel_rfl) (by kernel_rfl) rfl (.inl fun _ h => h.1) ⟨⟨hS117.hasK (KLe.refl _), hS117.hasObj (.head _)⟩, (fun _ => trivial), by decide⟩ wn rfl (fun _ h => rh_load1 tf3 rfl (ha142 1 _ rfl) h) ?_
    refine wg_val (i := 11) (listed' := #[true, true, true, true, true, true, true, true, true, true, true, true, false, false, false]) (fun _ => True) rfl (by kernel_rfl) (pk_then (pk_block (pk_then (pk_block (pk_then (pk_then pk_body)))))) (by kernel_rfl) rfl (by kernel_rfl) (by kernel_rfl) rfl (.inl fun _ _ => trivial) ⟨⟨hS117.hasK (KLe.refl _), hS117.hasObj (.head _)⟩, (fun _ => trivial), by decide⟩ wn rfl (fun _ _ => (rv_build (cs := #[sv x118.To, .int .i64 x132.At]) sp46 tf46 rfl (by kernel_rfl))) ?_
    refine wg_one (i := 12) (by kernel_rfl) rfl ?_
    refine wl_buildSlice (t := tGTerm) (n := 1) (pv := [(0, .agg #[sv x118.To, .int .i64 x132.At])]) (cs := [sv x118.To, .int .i64 x132.At]) (xs := [(GTerm.mk x118.To x132.At)]) wn rfl Tryz.underlying38 tf46 rfl rfl rfl (by kernel_rfl) rfl rfl (lit_cons (u := .agg #[sv x118.To, .int .i64 x132.At]) (z := (GTerm.mk x118.To x132.At)) ⟨rfl, hl130, hr141⟩ lit_nil) hS117 ?_
    intro a143 w144 K145 hl146 hs147 hS148
    refine wl_nil (qe_held (listed' := #[true, true, true, true, true, true, true, true, true, true, true, true, true, false, false]) rfl ⟨⟨hS148.hasK hl146, hS148.hasObj (.tail _ (.head _))⟩, (fun _ => trivial), by decide⟩ ?_)
    refine wg_one (i := 13) (by kernel_rfl) rfl ?_
    have hS149 : SH _ _ _ _ _ [_, _, _] := SH.front (p := [_, _]) hS148
    obtain ⟨x150, hx151, h152⟩ := ob h134
    refine wl_append (t := tGTerm) wn rfl Tryz.underlying38 tf46 rfl rfl rfl rfl rfl (SliceAt.mono (hS72.le.trans hl146) hs54) hs147 hx151 hS149 ?_
    intro a153 n154 c155 w156 K157 hl158 hs159 hS160
    refine wl_nil (qe_held (listed' := #[true, true, true, true, true, true, true, true, true, true, true, true, true, true, false]) rfl ⟨⟨hS160.hasK (hl146.trans hl158), hS160.hasObj (.tail _ (.tail _ (.head _)))⟩, (fun _ => trivial), by decide⟩ ?_)
    refine wg_val (i := 14) (listed' := #[true, true, true, true, true, true, true, true, true, true, true, true, true, true, true]) (fun _ => True) rfl (by kernel_rfl) (pk_then (pk_block (pk_then (pk_block (pk_then (pk_then pk_body)))))) (by kernel_rfl) rfl (by kernel_rfl) (by kernel_rfl) rfl (.inl fun _ _ => trivial) ⟨⟨hS160.hasK (hl146.trans hl158), hS160.hasObj (.tail _ (.tail _ (.head _)))⟩, (fun _ => trivial), by decide⟩ wn rfl (fun _ _ => (rv_assign rfl)) ?_
    refine wg_done (by kernel_rfl) ?_
    refine qe_seq ?_
    refine wc_region ?_
    refine vm rfl rfl ?_
    refine wl_val wn rfl (rv_fieldAddr ff26_1 rfl) ?_
    refine wl_val wn rfl (rv_loadm1 tf24 rfl (.tail _ (.tail _ (.head _))) hS160 rfl) ?_
    refine vm rfl rfl ?_
    obtain ⟨x161, hx162, h163⟩ := ob h152
    refine wl_indexAddr (t := tGSyn) wn rfl Tryz.underlying24 tf106 rfl rfl (SliceAt.mono (((((hl17.trans hS25.le).trans hl48).trans hS72.le).trans hl146).trans hl158) hs8) hx162 ?_
    intro b164 o165 u166 hu167 ha168
    obtain ⟨a169, n170, c171, rfl, hs172, hl173⟩ := hu167
    have ha174 : AtK _ b164 o165 [.slice a169 n170 c171, sv x161.To] := ha168
    refine wl_val wn rfl (rv_fieldAddr ff106_0 rfl) ?_
    refine wl_val wn rfl (rv_load1 tf23 rfl hS160 (ha174 0 _ rfl)) ?_
    refine wl_val wn rfl (rv_len (t := tStr) Tryz.underlying23 rfl hs172) ?_
    obtain ⟨x175, hx176, h177⟩ := ob h163
    refine wl_sl_l (t := tGTerm) wn rfl Tryz.underlying38 tf46 rfl rfl (SliceAt.mono ((hS72.le.trans hl146).trans hl158) hs58) hx176 ?_
    intro a178 n179 c180 hs181
    refine va rfl rfl ?_
    refine nb ?_
    obtain rfl := oi h177
    have hS182 : SH _ _ _ _ _ [_, _, _] := SH.front (p := [_, _]) hS160
    have hS183 : SH _ _ _ _ _ [_, _] := SH.sublist hS182 (.cons_cons _ (.cons_cons _ (.cons _ .slnil)))
    exact qe_mid' ⟨_, rfl, a153, n154, c155, a178, n179, c180, K157, rfl, hS183, (((hl48.trans hS72.le).trans hl146).trans hl158), hs159, hs181⟩ ⟨rfl, rfl, rfl, trivial⟩
  ·have h66 := cond_f hb65 h63
   refine wc_exit ?_
   refine qe_then_exit ?_
   refine qe_then_exit ?_
   obtain rfl := oi h66
   have e184 := hx64 _ rfl
   subst e184
   refine qe_block_eq ?_
   obtain rfl := oi h46
   have hS185 : SH _ _ _ _ _ [_] := SH.sublist hS50 (.cons _ (.cons_cons _ .slnil))
   exact qe_mid' ⟨a51, n52, c53, K47, rfl, hS185, hl48, hs54⟩ ⟨rfl, trivial⟩
 ·rintro _ w37 ⟨a39, n40, c41, K35, rfl, hS38, hl36, hs42⟩
  refine qr ?_
  refine vm rfl rfl ?_
  refine va rfl rfl ?_
  refine nq ?_
  refine wc_ret ?_
  obtain rfl := oi h34
  exact qe_ret (vs := [_]) Tryz.results148 ⟨rfl, trivial⟩ ⟨a39, n40, c41, K35, rfl, hS38, hs42⟩

theorem ok_spec_l6Field (F : Nat) {w : World} {K : KMap} {a2 : Option Addr} {n3 c4 : Nat} {a6 : Option Addr} {n7 c8 : Nat} {p0_d : GDoc} {p1_name : Str} {r : Str} (hS : SH w K [] w K []) (hr1 : rng64 p0_d.Id) (hs5 : SliceAt tGField K a2 n3 c4 p0_d.Fields) (hs9 : SliceAt tGAttr K a6 n7 c8 p0_d.Nums) (hl10 : p1_name.length ≤ maxLen) (hm : M.spec_l6Field F p0_d p1_name = some r) :
  Calls Tryz.prog 149 #[.agg #[.int .i64 p0_d.Id, .slice a2 n3 c4, .slice a6 n7 c8], sv p1_name] w fun e w' => ∃ (K' : KMap), e = .returned (sv r) ∧ SH w K [] w' K' [] ∧ r.length ≤ maxLen := by
 rw [M.spec_l6Field] at hm
 refine calls_in Tryz.func149 rfl Tryz.ntmps149 rfl ?_
 refine sr ?_
 refine wl_box wn rfl rfl hS ?_
 intro g11 w12 hS13
 have hS14 : SH _ _ _ _ _ [obj g11 [.int .i64 p0_d.Id, .slice a2 n3 c4, .slice a6 n7 c8] 44] := hS13
 refine wl_val wn rfl (rv_assign (v := sv []) rfl) ?_
 refine nsr ?_
 refine wl_val wn rfl (rv_assign (v := .int .i64 0) rfl) ?_
 refine nq ?_
 obtain ⟨o15, h16, h17⟩ := ob hm
 refine wc_cutg (fun E' w' => ∃ (s18 : Unit) (K19 : KMap), o15 = .inl s18 ∧ E' = [] ∧ SH w K [] w' K19 [] ∧ KLe K K19) ?_ ?_
 ·refine wc_block ?_
  obtain ⟨r24, h25, h26⟩ := ob h16
  refine wc_while' (fun (s23 : Int) E' w' => ∃ (K27 : KMap), E' = [(1, sv p1_name), (2, .pointer (some ⟨g11, 0, none⟩)), (5, .int .i64 s23)] ∧ SH w K [] w' K27 [obj g11 [.int .i64 p0_d.Id, .slice a2 n3 c4, .slice a6 n7 c8] 44] ∧ KLe K K27 ∧ rng64 s23) h25 ⟨K, rfl, hS14, (KLe.refl _), (by decide : rng64 0)⟩ ⟨rfl, rfl, rfl, trivial⟩ ?_
  rintro s23 _ w29 r32 h33 hx34 ⟨K27, rfl, hS30, hl28, hr31⟩
  refine wc_seq ?_
  refine sr ?_
  refine vm rfl rfl ?_
  refine wl_val wn rfl (rv_fieldAddr ff44_1 rfl) ?_
  refine wl_val wn rfl (rv_loadm1 tf41 rfl (.head _) hS30 rfl) ?_
  refine wl_val wn rfl (rv_len (t := tGField) Tryz.underlying41 rfl (SliceAt.mono hl28 hs5)) ?_
  refine wl_val wn rfl (rv_lss rfl rfl) ?_
  refine nq ?_
  refine wc_cond rfl (fun hb35 => ?_) (fun hb35 => ?_)
  ·have h36 := cond_t hb35 h33
   refine wc_skip ?_
   refine qs ?_
   refine wc_block ?_
   refine sr ?_
   refine wl_val wn rfl (rv_fieldAddr ff44_1 rfl) ?_
   refine wl_val wn rfl (rv_loadm1 tf41 rfl (.head _) hS30 rfl) ?_
   refine vm rfl rfl ?_
   obtain ⟨x37, hx38, h39⟩ := ob h36
   refine wl_indexAddr (t := tGField) wn rfl Tryz.underlying41 tf109 rfl rfl (SliceAt.mono hl28 hs5) hx38 ?_
   intro b40 o41 u42 hu43 ha44
   obtain ⟨rfl, hl45, hl46⟩ := hu43
   have ha47 : AtK _ b40 o41 [sv x37.Name, sv x37.Text] := ha44
   refine wl_val wn rfl (rv_fieldAddr ff109_0 rfl) ?_
   refine wl_val wn rfl (rv_load1 tf9 rfl hS30 (ha47 0 _ rfl)) ?_
   refine vm rfl rfl ?_
   refine wl_val wn rfl (rv_seql rfl rfl) ?_
   refine nq ?_
   refine wc_cond rfl (fun hb48 => ?_) (fun hb48 => ?_)
   ·have h49 := cond_t hb48 h39
    refine sr ?_
    refine wl_val wn rfl (rv_fieldAddr ff44_1 rfl) ?_
    refine wl_val wn rfl (rv_loadm1 tf41 rfl (.head _) hS30 rfl) ?_
    refine vm rfl rfl ?_
    obtain ⟨x50, hx51, h52⟩ := ob h49
    refine wl_indexAddr (t := tGField) wn rfl Tryz.underlying41 tf109 rfl rfl (SliceAt.mono hl28 hs5) hx51 ?_
    intro b53 o54 u55 hu56 ha57
    obtain ⟨rfl, hl58, hl59⟩ := hu56
    have ha60 : AtK _ b53 o54 [sv x50.Name, sv x50.Text] := ha57
    refine wl_val wn rfl (rv_fieldAddr ff109_1 rfl) ?_
    refine wl_val wn rfl (rv_load1 tf9 rfl hS30 (ha60 1 _ rfl)) ?_
    refine va rfl rfl ?_
    refine nq ?_
    refine wc_ret ?_
    refine qe_block_ret ?_
    refine qe_then_ret ?_
    refine qe_then_ret ?_
    obtain rfl := oi h52
    have e61 := hx34 _ rfl
    subst e61
    refine qe_block_ret ?_
    refine qe_then_ret ?_
    obtain rfl := oi h26
    refine qe_then_ret ?_
    obtain rfl := oi h17
    have hS62 : SH _ _ _ _ _ [] := SH.sublist hS30 (.cons _ .slnil)
    exact qe_ret (vs := [_]) Tryz.results149 ⟨rfl, trivial⟩ ⟨K27, rfl, hS62, hl59⟩
   ·have h49 := cond_f hb48 h39
    refine wc_skip ?_
    refine qe_block ?_
    refine qe_seq ?_
    refine wc_region ?_
    refine vm rfl rfl ?_
    refine wl_val wn rfl (rv_add rfl rfl) ?_
    refine va rfl rfl ?_
    refine wl_nil ?_
    obtain rfl := oi h49
    exact qe_mid' ⟨_, rfl, K27, rfl, hS30, hl28, (w64_rng _)⟩ ⟨rfl, rfl, rfl, trivial⟩
  ·have h36 := cond_f hb35 h33
   refine wc_exit ?_
   refine qe_then_exit ?_
   refine qe_then_exit ?_
   obtain rfl := oi h36
   have e63 := hx34 _ rfl
   subst e63
   refine qe_block_eq ?_
   obtain rfl := oi h26
   have hS64 : SH _ _ _ _ _ [] := SH.sublist hS30 (.cons _ .slnil)
   exact qe_mid' ⟨_, K27, rfl, rfl, hS64, hl28⟩ trivial
 ·rintro _ w21 ⟨s18, K19, rfl, rfl, hS22, hl20⟩
  refine qr ?_
  refine wl_val wn rfl (rv_assign (v := sv []) rfl) ?_
  refine nq ?_
  refine wc_ret ?_
  obtain rfl := oi h17
  exact qe_ret (vs := [_]) Tryz.results149 ⟨rfl, trivial⟩ ⟨K19, rfl, hS22, (by decide : ([] : Str).length ≤ maxLen)⟩

set_option maxHeartbeats 2000000 in
theorem ok_spec_l7Terms (F : Nat) {w : World} {K : KMap} {a1 : Option Addr} {n2 c3 : Nat} {a5 : Option Addr} {n6 c7 : Nat} {a9 : Option Addr} {n10 c11 : Nat} {p0_c : GConf} {p1_docs : List GDoc} {p2_field : Str} {r : (List Str)} (hS : SH w K [] w K []) (hs4 : SliceAt tStr K a1 n2 c3 p0_c.Stops) (hs8 : SliceAt tGSyn K a5 n6 c7 p0_c.Syns) (hs12 : SliceAt tGDoc K a9 n10 c11 p1_docs) (hl13 : p2_field.length ≤ maxLen) (hm : M.spec_l7Terms F p0_c p1_docs p2_field = some r) :
  Calls Tryz.prog 115 #[.agg #[.slice a1 n2 c3, .slice a5 n6 c7], .slice a9 n10 c11, sv p2_field] w fun e w' => ∃ (a_1 : Option Addr) (n_2 c_3 : Nat) (K' : KMap), e = .returned (.slice a_1 n_2 c_3) ∧ SH w K [] w' K' [tail (.slice a_1 n_2 c_3) 9 1] ∧ SliceAt tStr K' a_1 n_2 c_3 r := by
 rw [M.spec_l7Terms] at hm
 refine calls_in Tryz.func115 rfl Tryz.ntmps115 rfl ?_
 refine sr ?_
 refine wl_box wn rfl rfl hS ?_
 intro g14 w15 hS16
 have hS17 : SH _ _ _ _ _ [obj g14 [.slice a1 n2 c3, .slice a5 n6 c7] 26] := hS16
 refine wl_val wn rfl (rv_assign (v := .slice none 0 0) rfl) ?_
 refine nr ?_
 refine wl_buildSlice0 tStr wn rfl Tryz.underlying23 tf9 hS17 ?_
 intro a18 w19 K20 hl21 hs22 hS23
 refine va rfl rfl ?_
 refine nsr ?_
 refine wl_val wn rfl (rv_assign (v := .int .i64 0) rfl) ?_
 refine nq ?_
 obtain ⟨o24, h25, h26⟩ := ob hm
 refine wc_cutg (fun E' w' => ∃ (a31 : Option Addr) (n32 c33 : Nat) (K27 : KMap), E' = [(7, .slice a31 n32 c33)] ∧ SH w K [] w' K27 [tail (.slice a31 n32 c33) 9 1] ∧ KLe K20 K27 ∧ SliceAt tStr K27 a31 n32 c33 o24) ?_ ?_
 ·refine wc_block ?_
  obtain ⟨r36, h37, h38⟩ := ob h25
  have hS48 : SH _ _ _ _ _ [_, _] := SH.front (p := [_]) hS23
  refine wc_while' (fun (s35 : (List Str) × Int) E' w' => ∃ (a43 : Option Addr) (n44 c45 : Nat) (K39 : KMap), E' = [(1, .slice a9 n10 c11), (2, sv p2_field), (3, .pointer (some ⟨g14, 0, none⟩)), (7, .slice a43 n44 c45), (8, .int .i64 s35.2)] ∧ SH w K [] w' K39 [obj g14 [.slice a1 n2 c3, .slice a5 n6 c7] 26, tail (.slice a43 n44 c45) 9 1] ∧ KLe K20 K39 ∧ SliceAt tStr K39 a43 n44 c45 s35.1 ∧ rng64 s35.2) h37 ⟨a18, 0, 0, K20, rfl, hS48, (KLe.refl _), hs22, (by decide : rng64 0)⟩ ⟨rfl, rfl, rfl, rfl, rfl, trivial⟩ ?_
  rintro s35 _ w41 r49 h50 hx51 ⟨a43, n44, c45, K39, rfl, hS42, hl40, hs46, hr47⟩
  refine wc_seq ?_
  refine sr ?_
  refine vm rfl rfl ?_
  refine vm rfl rfl ?_
  refine wl_val wn rfl (rv_len (t := tGDoc) Tryz.underlying27 rfl (SliceAt.mono (hl21.trans hl40) hs12)) ?_
  refine wl_val wn rfl (rv_lss rfl rfl) ?_
  refine nq ?_
  refine wc_cond rfl (fun hb52 => ?_) (fun hb52 => ?_)
  ·have h53 := cond_t hb52 h50
   refine wc_skip ?_
   refine qs ?_
   refine wc_block ?_
   refine wc_seq ?_
   refine wc_held (fun w' => Holds K39 w' ∧ HasObj g14 [.slice a1 n2 c3, .slice a5 n6 c7] w') (fun w' => True) 9 [] mixed ?_
   have hS55 := SH.drew hS42
   refine wg_val (i := 0) (listed' := #[true, false, false, false, false, false, false, false, false]) (HasObj g14 [.slice a1 n2 c3, .slice a5 n6 c7]) rfl (by kernel_rfl) (pk_then (pk_block (pk_then (pk_then (pk_block (pk_then (pk_then pk_body))))))) (by kernel_rfl) rfl (by kernel_rfl) (by kernel_rfl) rfl (.inl fun _ h => h.2) ⟨⟨hS55.hasK (KLe.refl _), hS55.hasObj (.head _)⟩, (fun _ => trivial), by decide⟩ wn rfl (fun _ h => rh_loadmS (ds := [.slice a1 n2 c3, .slice a5 n6 c7]) tf26 rfl rfl rfl h) ?_
   refine wg_val (i := 1) (listed' := #[true, true, false, false, false, false, false, false, false]) (fun _ => True) rfl (by kernel_rfl) (pk_then (pk_block (pk_then (pk_then (pk_block (pk_then (pk_then pk_body))))))) (by kernel_rfl) rfl (by kernel_rfl) (by kernel_rfl) rfl (.inl fun _ _ => trivial) ⟨⟨hS55.hasK (KLe.refl _), hS55.hasObj (.head _)⟩, (fun _ => trivial), by decide⟩ wn rfl (fun _ _ => (rv_move rfl)) ?_
   refine wg_val (i := 2) (listed' := #[true, true, true, false, false, false, false, false, false]) (fun _ => True) rfl (by kernel_rfl) (pk_then (pk_block (pk_then (pk_then (pk_block (pk_then (pk_then pk_body))))))) (by kernel_rfl) rfl (by kernel_rfl) (by kernel_rfl) rfl (.inl fun _ _ => trivial) ⟨⟨hS55.hasK (KLe.refl _), hS55.hasObj (.head _)⟩, (fun _ => trivial), by decide⟩ wn rfl (fun _ _ => (rv_move rfl)) ?_
   obtain ⟨x56, hx57, h58⟩ := ob h53
   refine wg_indexAddr (t := tGDoc) (j := 3) (listed' := #[true, true, true, true, false, false, false, false, false]) rfl (by kernel_rfl) (pk_then (pk_block (pk_then (pk_then (pk_block (pk_then (pk_then pk_body))))))) (by kernel_rfl) rfl (by kernel_rfl) (by kernel_rfl) rfl ⟨⟨hS55.hasK (KLe.refl _), hS55.hasObj (.head _)⟩, (fun _ => trivial), by decide⟩ wn rfl Tryz.underlying27 tf44 rfl rfl (SliceAt.mono (hl21.trans hl40) hs12) hx57 ?_
   intro b59 o60 u61 hu62 ha63
   obtain ⟨a65, n66, c67, a69, n70, c71, rfl, hr64, hs68, hs72⟩ := hu62
   have ha73 : AtK _ b59 o60 [.int .i64 x56.Id, .slice a65 n66 c67, .slice a69 n70 c71] := ha63
   refine wg_val (i := 4) (listed' := #[true, true, true, true, true, false, false, false, false]) (Holds K39) rfl (by kernel_rfl) (pk_then (pk_block (pk_then (pk_then (pk_block (pk_then (pk_then pk_body))))))) (by kernel_rfl) rfl (by kernel_rfl) (by kernel_rfl) rfl (.inl fun _ h => h.1) ⟨⟨hS55.hasK (KLe.refl _), hS55.hasObj (.head _)⟩, (fun _ => trivial), by decide⟩ wn rfl (fun _ h => rh_loadS (cs := [.int .i64 x56.Id, .slice a65 n66 c67, .slice a69 n70 c71]) tf44 rfl ha73 rfl h) ?_
   refine wg_val (i := 5) (listed' := #[true, true, true, true, true, true, false, false, false]) (fun _ => True) rfl (by kernel_rfl) (pk_then (pk_block (pk_then (pk_then (pk_block (pk_then (pk_then pk_body))))))) (by kernel_rfl) rfl (by kernel_rfl) (by kernel_rfl) rfl (.inl fun _ _ => trivial) ⟨⟨hS55.hasK (KLe.refl _), hS55.hasObj (.head _)⟩, (fun _ => trivial), by decide⟩ wn rfl (fun _ _ => (rv_move rfl)) ?_
   refine wg_one (i := 6) (by kernel_rfl) rfl ?_
   obtain ⟨r74, hx75, h76⟩ := ob h58
   refine wl_call wn rfl (rt_call (vs := [.agg #[.int .i64 x56.Id, .slice a65 n66 c67, .slice a69 n70 c71], sv p2_field]) co149 rfl) ((ok_spec_l6Field F) hS55.enter0 hr64 hs68 hs72 hl13 hx75) ?_
   rintro e81 w78 ⟨K77, rfl, hS79, hl80⟩
   refine ⟨_, rfl, ?_⟩
   have hS82 : SH _ _ _ _ _ [_, _] := SH.call0 hS55 hS79
   refine wl_nil (qe_held (listed' := #[true, true, true, true, true, true, true, false, false]) rfl ⟨⟨hS82.hasK hS79.le, hS82.hasObj (.head _)⟩, (fun _ => trivial), by decide⟩ ?_)
   refine wg_one (i := 7) (by kernel_rfl) rfl ?_
   obtain ⟨r83, hx84, h85⟩ := ob h76
   refine wl_call wn rfl (rt_call (vs := [.agg #[.slice a1 n2 c3, .slice a5 n6 c7], sv r74]) co148 rfl) ((ok_spec_l2Terms F) hS82.enter0 (SliceAt.mono ((hl21.trans hl40).trans hS79.le) hs4) (SliceAt.mono ((hl21.trans hl40).trans hS79.le) hs8) hl80 hx84) ?_
   rintro e93 w87 ⟨a89, n90, c91, K86, rfl, hS88, hs92⟩
   refine ⟨_, rfl, ?_⟩
   have hS94 : SH _ _ _ _ _ [_, _, _] := SH.call0 hS82 hS88
   refine wl_nil (qe_held (listed' := #[true, true, true, true, true, true, true, true, false]) rfl ⟨⟨hS94.hasK (hS79.le.trans hS88.le), hS94.hasObj (.tail _ (.head _))⟩, (fun _ => trivial), by decide⟩ ?_)
   refine wg_val (i := 8) (listed' := #[true, true, true, true, true, true, true, true, true]) (fun _ => True) rfl (by kernel_rfl) (pk_then (pk_block (pk_then (pk_then (pk_block (pk_then (pk_then pk_body))))))) (by kernel_rfl) rfl (by kernel_rfl) (by kernel_rfl) rfl (.inl fun _ _ => trivial) ⟨⟨hS94.hasK (hS79.le.trans hS88.le), hS94.hasObj (.tail _ (.head _))⟩, (fun _ => trivial), by decide⟩ wn rfl (fun _ _ => (rv_assign rfl)) ?_
   refine wg_done (by kernel_rfl) ?_
   refine qr ?_
   refine wl_val wn rfl (rv_assign (v := .int .i64 0) rfl) ?_
   refine nq ?_
   obtain ⟨o95, h96, h97⟩ := ob h85
   refine wc_cutg (fun E' w' => ∃ (a102 : Option Addr) (n103 c104 : Nat) (K98 : KMap), E' = [(1, .slice a9 n10 c11), (2, sv p2_field), (3, .pointer (some ⟨g14, 0, none⟩)), (7, .slice a102 n103 c104), (8, .int .i64 s35.2)] ∧ SH w K [] w' K98 [obj g14 [.slice a1 n2 c3, .slice a5 n6 c7] 26, tail (.slice a102 n103 c104) 9 1] ∧ KLe K86 K98 ∧ SliceAt tStr K98 a102 n103 c104 o95) ?_ ?_
   ·refine wc_block ?_
    obtain ⟨r107, h108, h109⟩ := ob h96
    have hS119 : SH _ _ _ _ _ [_, _] := SH.sublist hS94 (.cons _ (.cons_cons _ (.cons_cons _ .slnil)))
    refine wc_while' (fun (s106 : (List Str) × Int) E' w' => ∃ (a114 : Option Addr) (n115 c116 : Nat) (K110 : KMap), E' = [(1, .slice a9 n10 c11), (2, sv p2_field), (3, .pointer (some ⟨g14, 0, none⟩)), (7, .slice a114 n115 c116), (8, .int .i64 s35.2), (9, .slice a89 n90 c91), (10, .int .i64 s106.2)] ∧ SH w K [] w' K110 [obj g14 [.slice a1 n2 c3, .slice a5 n6 c7] 26, tail (.slice a114 n115 c116) 9 1] ∧ KLe K86 K110 ∧ SliceAt tStr K110 a114 n115 c116 s106.1 ∧ rng64 s106.2) h108 ⟨a43, n44, c45, K86, rfl, hS119, (KLe.refl _), (SliceAt.mono (hS79.le.trans hS88.le) hs46), (by decide : rng64 0)⟩ ⟨rfl, rfl, rfl, rfl, rfl, rfl, rfl, trivial⟩ ?_
    rintro s106 _ w112 r120 h121 hx122 ⟨a114, n115, c116, K110, rfl, hS113, hl111, hs117, hr118⟩
    refine wc_seq ?_
    refine sr ?_
    refine vm rfl rfl ?_
    refine vm rfl rfl ?_
    refine wl_val wn rfl (rv_len (t := tGTerm) Tryz.underlying38 rfl (SliceAt.mono hl111 hs92)) ?_
    refine wl_val wn rfl (rv_lss rfl rfl) ?_
    refine nq ?_
    refine wc_cond rfl (fun hb123 => ?_) (fun hb123 => ?_)
    ·have h124 := cond_t hb123 h121
     refine wc_skip ?_
     refine qs ?_
     refine wc_block ?_
     refine wc_region ?_
     refine vm rfl rfl ?_
     refine vm rfl rfl ?_
     refine vm rfl rfl ?_
     obtain ⟨x125, hx126, h127⟩ := ob h124
     refine wl_indexAddr (t := tGTerm) wn rfl Tryz.underlying38 tf46 rfl rfl (SliceAt.mono hl111 hs92) hx126 ?_
     intro b128 o129 u130 hu131 ha132
     obtain ⟨rfl, hl133, hr134⟩ := hu131
     have ha135 : AtK _ b128 o129 [sv x125.Text, .int .i64 x125.At] := ha132
     refine wl_val wn rfl (rv_fieldAddr ff46_0 rfl) ?_
     refine wl_val wn rfl (rv_load1 tf9 rfl hS113 (ha135 0 _ rfl)) ?_
     obtain ⟨r136, hx137, h138⟩ := ob h127
     have hS139 : SH _ _ _ _ _ [_, _] := SH.front (p := [_]) hS113
     refine wl_call wn rfl (rt_call (vs := [.slice a114 n115 c116, sv x125.Text]) co147 rfl) ((ok_spec_l7Put F) (SH.enter (Lin := [_]) hS139) hs117 hl133 hx137) ?_
     rintro e147 w141 ⟨a143, n144, c145, K140, rfl, hS142, hs146⟩
     refine ⟨_, rfl, ?_⟩
     have hS148 : SH _ _ _ _ _ [_, _] := SH.call (Lin := [_]) hS139 hS142
     refine va rfl rfl ?_
     refine nb ?_
     refine qe_seq ?_
     refine wc_region ?_
     refine vm rfl rfl ?_
     refine wl_val wn rfl (rv_add rfl rfl) ?_
     refine va rfl rfl ?_
     refine wl_nil ?_
     obtain rfl := oi h138
     have hS149 : SH _ _ _ _ _ [_, _] := SH.front (p := [_]) hS148
     exact qe_mid' ⟨_, rfl, a143, n144, c145, K140, rfl, hS149, (hl111.trans hS142.le), hs146, (w64_rng _)⟩ ⟨rfl, rfl, rfl, rfl, rfl, rfl, rfl, trivial⟩
    ·have h124 := cond_f hb123 h121
     refine wc_exit ?_
     refine qe_then_exit ?_
     refine qe_then_exit ?_
     obtain rfl := oi h124
     have e150 := hx122 _ rfl
     subst e150
     refine qe_block_eq ?_
     obtain rfl := oi h109
     exact qe_mid' ⟨a114, n115, c116, K110, rfl, hS113, hl111, hs117⟩ ⟨rfl, rfl, rfl, rfl, rfl, trivial⟩
   ·rintro _ w100 ⟨a102, n103, c104, K98, rfl, hS101, hl99, hs105⟩
    refine qe_block ?_
    refine qe_seq ?_
    refine wc_region ?_
    refine vm rfl rfl ?_
    refine wl_val wn rfl (rv_add rfl rfl) ?_
    refine va rfl rfl ?_
    refine wl_nil ?_
    obtain rfl := oi h97
    exact qe_mid' ⟨_, rfl, a102, n103, c104, K98, rfl, hS101, (((hl40.trans hS79.le).trans hS88.le).trans hl99), hs105, (w64_rng _)⟩ ⟨rfl, rfl, rfl, rfl, rfl, trivial⟩
  ·have h53 := cond_f hb52 h50
   refine wc_exit ?_
   refine qe_then_exit ?_
   refine qe_then_exit ?_
   obtain rfl := oi h53
   have e151 := hx51 _ rfl
   subst e151
   refine qe_block_eq ?_
   obtain rfl := oi h38
   have hS152 : SH _ _ _ _ _ [_] := SH.sublist hS42 (.cons _ (.cons_cons _ .slnil))
   exact qe_mid' ⟨a43, n44, c45, K39, rfl, hS152, hl40, hs46⟩ ⟨rfl, trivial⟩
 ·rintro _ w29 ⟨a31, n32, c33, K27, rfl, hS30, hl28, hs34⟩
  refine qr ?_
  refine vm rfl rfl ?_
  refine va rfl rfl ?_
  refine nq ?_
  refine wc_ret ?_
  obtain rfl := oi h26
  exact qe_ret (vs := [_]) Tryz.results115 ⟨rfl, trivial⟩ ⟨a31, n32, c33, K27, rfl, hS30, hs34⟩

set_option maxHeartbeats 2000000 in
theorem ok_spec_l7Post (F : Nat) {w : World} {K : KMap} {a1 : Option Addr} {n2 c3 : Nat} {a5 : Option Addr} {n6 c7 : Nat} {a10 : Option Addr} {n11 c12 : Nat} {a14 : Option Addr} {n15 c16 : Nat} {p0_c : GConf} {p1_d : GDoc} {p2_field : Str} {p3_term : Str} {r : (List Int)} (hS : SH w K [] w K []) (hs4 : SliceAt tStr K a1 n2 c3 p0_c.Stops) (hs8 : SliceAt tGSyn K a5 n6 c7 p0_c.Syns) (hr9 : rng64 p1_d.Id) (hs13 : SliceAt tGField K a10 n11 c12 p1_d.Fields) (hs17 : SliceAt tGAttr K a14 n15 c16 p1_d.Nums) (hl18 : p2_field.length ≤ maxLen) (hl19 : p3_term.length ≤ maxLen) (hm : M.spec_l7Post F p0_c p1_d p2_field p3_term = some r) :
  Calls Tryz.prog 150 #[.agg #[.slice a1 n2 c3, .slice a5 n6 c7], .agg #[.int .i64 p1_d.Id, .slice a10 n11 c12, .slice a14 n15 c16], sv p2_field, sv p3_term] w fun e w' => ∃ (a_1 : Option Addr) (n_2 c_3 : Nat) (K' : KMap), e = .returned (.slice a_1 n_2 c_3) ∧ SH w K [] w' K' [tail (.slice a_1 n_2 c_3) 3 1] ∧ SliceAt tInt K' a_1 n_2 c_3 r := by
 rw [M.spec_l7Post] at hm
 refine calls_in Tryz.func150 rfl Tryz.ntmps150 rfl ?_
 refine sr ?_
 refine wl_box wn rfl rfl hS ?_
 intro g20 w21 hS22
 have hS23 : SH _ _ _ _ _ [obj g20 [.slice a1 n2 c3, .slice a5 n6 c7] 26] := hS22
 refine wl_box wn rfl rfl hS23 ?_
 intro g24 w25 hS26
 have hS27 : SH _ _ _ _ _ [obj g24 [.int .i64 p1_d.Id, .slice a10 n11 c12, .slice a14 n15 c16] 44, _] := hS26
 refine wl_val wn rfl (rv_assign (v := .slice none 0 0) rfl) ?_
 refine nr ?_
 refine wl_buildSlice0 tInt wn rfl Tryz.underlying37 tf3 hS27 ?_
 intro a28 w29 K30 hl31 hs32 hS33
 refine va rfl rfl ?_
 refine ns ?_
 refine wc_held (fun w' => Holds K30 w' ∧ HasObj g20 [.slice a1 n2 c3, .slice a5 n6 c7] w' ∧ HasObj g24 [.int .i64 p1_d.Id, .slice a10 n11 c12, .slice a14 n15 c16] w') (fun w' => True) 6 [] mixed ?_
 have hS35 := SH.drew hS33
 refine wg_val (i := 0) (listed' := #[true, false, false, false, false, false]) (HasObj g20 [.slice a1 n2 c3, .slice a5 n6 c7]) rfl (by kernel_rfl) (pk_then pk_body) (by kernel_rfl) rfl (by kernel_rfl) (by kernel_rfl) rfl (.inl fun _ h => h.2.1) ⟨⟨hS35.hasK (KLe.refl _), hS35.hasObj (.tail _ (.tail _ (.head _))), hS35.hasObj (.tail _ (.head _))⟩, (fun _ => trivial), by decide⟩ wn rfl (fun _ h => rh_loadmS (ds := [.slice a1 n2 c3, .slice a5 n6 c7]) tf26 rfl rfl rfl h) ?_
 refine wg_val (i := 1) (listed' := #[true, true, false, false, false, false]) (HasObj g24 [.int .i64 p1_d.Id, .slice a10 n11 c12, .slice a14 n15 c16]) rfl (by kernel_rfl) (pk_then pk_body) (by kernel_rfl) rfl (by kernel_rfl) (by kernel_rfl) rfl (.inl fun _ h => h.2.2) ⟨⟨hS35.hasK (KLe.refl _), hS35.hasObj (.tail _ (.tail _ (.head _))), hS35.hasObj (.tail _ (.head _))⟩, (fun _ => trivial), by decide⟩ wn rfl (fun _ h => rh_loadmS (ds := [.int .i64 p1_d.Id, .slice a10 n11 c12, .slice a14 n15 c16]) tf44 rfl rfl rfl h) ?_
 refine wg_val (i := 2) (listed' := #[true, true, true, false, false, false]) (fun _ => True) rfl (by kernel_rfl) (pk_then pk_body) (by kernel_rfl) rfl (by kernel_rfl) (by kernel_rfl) rfl (.inl fun _ _ => trivial) ⟨⟨hS35.hasK (KLe.refl _), hS35.hasObj (.tail _ (.tail _ (.head _))), hS35.hasObj (.tail _ (.head _))⟩, (fun _ => trivial), by decide⟩ wn rfl (fun _ _ => (rv_move rfl)) ?_
 refine wg_one (i := 3) (by kernel_rfl) rfl ?_
 obtain ⟨r36, hx37, h38⟩ := ob hm
 refine wl_call wn rfl (rt_call (vs := [.agg #[.int .i64 p1_d.Id, .slice a10 n11 c12, .slice a14 n15 c16], sv p2_field]) co149 rfl) ((ok_spec_l6Field F) hS35.enter0 hr9 (SliceAt.mono hl31 hs13) (SliceAt.mono hl31 hs17) hl18 hx37) ?_
 rintro e43 w40 ⟨K39, rfl, hS41, hl42⟩
 refine ⟨_, rfl, ?_⟩
 have hS44 : SH _ _ _ _ _ [_, _, _] := SH.call0 hS35 hS41
 refine wl_nil (qe_held (listed' := #[true, true, true, true, false, false]) rfl ⟨⟨hS44.hasK hS41.le, hS44.hasObj (.tail _ (.tail _ (.head _))), hS44.hasObj (.tail _ (.head _))⟩, (fun _ => trivial), by decide⟩ ?_)
 refine wg_one (i := 4) (by kernel_rfl) rfl ?_
 obtain ⟨r45, hx46, h47⟩ := ob h38
 refine wl_call wn rfl (rt_call (vs := [.agg #[.slice a1 n2 c3, .slice a5 n6 c7], sv r36]) co148 rfl) ((ok_spec_l2Terms F) hS44.enter0 (SliceAt.mono (hl31.trans hS41.le) hs4) (SliceAt.mono (hl31.trans hS41.le) hs8) hl42 hx46) ?_
 rintro e55 w49 ⟨a51, n52, c53, K48, rfl, hS50, hs54⟩
 refine ⟨_, rfl, ?_⟩
 have hS56 : SH _ _ _ _ _ [_, _, _, _] := SH.call0 hS44 hS50
 refine wl_nil (qe_held (listed' := #[true, true, true, true, true, false]) rfl ⟨⟨hS56.hasK (hS41.le.trans hS50.le), hS56.hasObj (.tail _ (.tail _ (.tail _ (.head _)))), hS56.hasObj (.tail _ (.tail _ (.head _)))⟩, (fun _ => trivial), by decide⟩ ?_)
 refine wg_val (i := 5) (listed' := #[true, true, true, true, true, true]) (fun _ => True) rfl (by kernel_rfl) (pk_then pk_body) (by kernel_rfl) rfl (by kernel_rfl) (by kernel_rfl) rfl (.inl fun _ _ => trivial) ⟨⟨hS56.hasK (hS41.le.trans hS50.le), hS56.hasObj (.tail _ (.tail _ (.tail _ (.head _)))), hS56.hasObj (.tail _ (.tail _ (.head _)))⟩, (fun _ => trivial), by decide⟩ wn rfl (fun _ _ => (rv_assign rfl)) ?_
 refine wg_done (by kernel_rfl) ?_
 refine qs ?_
 refine sr ?_
 refine wl_val wn rfl (rv_assign (v := .int .i64 0) rfl) ?_
 refine nq ?_
 obtain ⟨o57, h58, h59⟩ := ob h47
 refine wc_cutg (fun E' w' => ∃ (a64 : Option Addr) (n65 c66 : Nat) (K60 : KMap), E' = [(9, .slice a64 n65 c66)] ∧ SH w K [] w' K60 [tail (.slice a64 n65 c66) 3 1] ∧ KLe K48 K60 ∧ SliceAt tInt K60 a64 n65 c66 o57) ?_ ?_
 ·refine wc_block ?_
  obtain ⟨r69, h70, h71⟩ := ob h58
  have hS81 : SH _ _ _ _ _ [_] := SH.sublist hS56 (.cons _ (.cons_cons _ (.cons _ (.cons _ .slnil))))
  refine wc_while' (fun (s68 : (List Int) × Int) E' w' => ∃ (a76 : Option Addr) (n77 c78 : Nat) (K72 : KMap), E' = [(3, sv p3_term), (9, .slice a76 n77 c78), (10, .slice a51 n52 c53), (11, .int .i64 s68.2)] ∧ SH w K [] w' K72 [tail (.slice a76 n77 c78) 3 1] ∧ KLe K48 K72 ∧ SliceAt tInt K72 a76 n77 c78 s68.1 ∧ rng64 s68.2) h70 ⟨a28, 0, 0, K48, rfl, hS81, (KLe.refl _), (SliceAt.mono (hS41.le.trans hS50.le) hs32), (by decide : rng64 0)⟩ ⟨rfl, rfl, rfl, rfl, trivial⟩ ?_
  rintro s68 _ w74 r82 h83 hx84 ⟨a76, n77, c78, K72, rfl, hS75, hl73, hs79, hr80⟩
  refine wc_seq ?_
  refine sr ?_
  refine vm rfl rfl ?_
  refine vm rfl rfl ?_
  refine wl_val wn rfl (rv_len (t := tGTerm) Tryz.underlying38 rfl (SliceAt.mono hl73 hs54)) ?_
  refine wl_val wn rfl (rv_lss rfl rfl) ?_
  refine nq ?_
  refine wc_cond rfl (fun hb85 => ?_) (fun hb85 => ?_)
  ·have h86 := cond_t hb85 h83
   refine wc_skip ?_
   refine qs ?_
   refine wc_block ?_
   refine sr ?_
   refine vm rfl rfl ?_
   refine vm rfl rfl ?_
   obtain ⟨x87, hx88, h89⟩ := ob h86
   refine wl_indexAddr (t := tGTerm) wn rfl Tryz.underlying38 tf46 rfl rfl (SliceAt.mono hl73 hs54) hx88 ?_
   intro b90 o91 u92 hu93 ha94
   obtain ⟨rfl, hl95, hr96⟩ := hu93
   have ha97 : AtK _ b90 o91 [sv x87.Text, .int .i64 x87.At] := ha94
   refine wl_val wn rfl (rv_fieldAddr ff46_0 rfl) ?_
   refine wl_val wn rfl (rv_load1 tf9 rfl hS75 (ha97 0 _ rfl)) ?_
   refine vm rfl rfl ?_
   refine wl_val wn rfl (rv_seql rfl rfl) ?_
   refine nq ?_
   refine wc_cond rfl (fun hb98 => ?_) (fun hb98 => ?_)
   ·have h99 := cond_t hb98 h89
    refine wc_region ?_
    refine vm rfl rfl ?_
    refine vm rfl rfl ?_
    refine vm rfl rfl ?_
    obtain ⟨x100, hx101, h102⟩ := ob h99
    refine wl_indexAddr (t := tGTerm) wn rfl Tryz.underlying38 tf46 rfl rfl (SliceAt.mono hl73 hs54) hx101 ?_
    intro b103 o104 u105 hu106 ha107
    obtain ⟨rfl, hl108, hr109⟩ := hu106
    have ha110 : AtK _ b103 o104 [sv x100.Text, .int .i64 x100.At] := ha107
    refine wl_val wn rfl (rv_fieldAddr ff46_1 rfl) ?_
    refine wl_val wn rfl (rv_load1 tf3 rfl hS75 (ha110 1 _ rfl)) ?_
    refine wl_buildSlice (t := tInt) (n := 1) (pv := [(0, .int .i64 x100.At)]) (cs := [.int .i64 x100.At]) (xs := [x100.At]) wn rfl Tryz.underlying37 tf3 rfl rfl rfl (by kernel_rfl) rfl rfl (lit_cons (u := .int .i64 x100.At) (z := x100.At) ⟨rfl, hr109⟩ lit_nil) hS75 ?_
    intro a111 w112 K113 hl114 hs115 hS116
    have hS117 : SH _ _ _ _ _ [_, _] := SH.front (p := [_]) hS116
    obtain ⟨x118, hx119, h120⟩ := ob h102
    refine wl_append (t := tInt) wn rfl Tryz.underlying37 tf3 rfl rfl rfl rfl rfl (SliceAt.mono hl114 hs79) hs115 hx119 hS117 ?_
    intro a121 n122 c123 w124 K125 hl126 hs127 hS128
    refine va rfl rfl ?_
    refine nb ?_
    refine qe_seq ?_
    refine wc_region ?_
    refine vm rfl rfl ?_
    refine wl_val wn rfl (rv_add rfl rfl) ?_
    refine va rfl rfl ?_
    refine wl_nil ?_
    obtain rfl := oi h120
    have hS129 : SH _ _ _ _ _ [_] := SH.sublist hS128 (.cons_cons _ (.cons _ .slnil))
    exact qe_mid' ⟨_, rfl, a121, n122, c123, K125, rfl, hS129, ((hl73.trans hl114).trans hl126), hs127, (w64_rng _)⟩ ⟨rfl, rfl, rfl, rfl, trivial⟩
   ·have h99 := cond_f hb98 h89
    refine wc_skip ?_
    refine qe_block ?_
    refine qe_seq ?_
    refine wc_region ?_
    refine vm rfl rfl ?_
    refine wl_val wn rfl (rv_add rfl rfl) ?_
    refine va rfl rfl ?_
    refine wl_nil ?_
    obtain rfl := oi h99
    exact qe_mid' ⟨_, rfl, a76, n77, c78, K72, rfl, hS75, hl73, hs79, (w64_rng _)⟩ ⟨rfl, rfl, rfl, rfl, trivial⟩
  ·have h86 := cond_f hb85 h83
   refine wc_exit ?_
   refine qe_then_exit ?_
   refine qe_then_exit ?_
   obtain rfl := oi h86
   have e130 := hx84 _ rfl
   subst e130
   refine qe_block_eq ?_
   obtain rfl := oi h71
   exact qe_mid' ⟨a76, n77, c78, K72, rfl, hS75, hl73, hs79⟩ ⟨rfl, trivial⟩
 ·rintro _ w62 ⟨a64, n65, c66, K60, rfl, hS63, hl61, hs67⟩
  refine qr ?_
  refine vm rfl rfl ?_
  refine va rfl rfl ?_
  refine nq ?_
  refine wc_ret ?_
  obtain rfl := oi h59
  exact qe_ret (vs := [_]) Tryz.results150 ⟨rfl, trivial⟩ ⟨a64, n65, c66, K60, rfl, hS63, hs67⟩

set_option maxHeartbeats 2000000 in
theorem ok_spec_l7Entry (F : Nat) {w : World} {K : KMap} {a1 : Option Addr} {n2 c3 : Nat} {a5 : Option Addr} {n6 c7 : Nat} {a9 : Option Addr} {n10 c11 : Nat} {p0_c : GConf} {p1_docs : List GDoc} {p2_field : Str} {p3_term : Str} {r : GEntry} (hS : SH w K [] w K []) (hs4 : SliceAt tStr K a1 n2 c3 p0_c.Stops) (hs8 : SliceAt tGSyn K a5 n6 c7 p0_c.Syns) (hs12 : SliceAt tGDoc K a9 n10 c11 p1_docs) (hl13 : p2_field.length ≤ maxLen) (hl14 : p3_term.length ≤ maxLen) (hm : M.spec_l7Entry F p0_c p1_docs p2_field p3_term = some r) :
  Calls Tryz.prog 116 #[.agg #[.slice a1 n2 c3, .slice a5 n6 c7], .slice a9 n10 c11, sv p2_field, sv p3_term] w fun e w' => ∃ (a_3 : Option Addr) (n_4 c_5 : Nat) (K' : KMap), e = .returned (.agg #[sv r.Field, sv r.Term, .slice a_3 n_4 c_5]) ∧ SH w K [] w' K' [tail (.slice a_3 n_4 c_5) 48 2] ∧ r.Field.length ≤ maxLen ∧ r.Term.length ≤ maxLen ∧ SliceAt tGPost K' a_3 n_4 c_5 r.Posts := by
 rw [M.spec_l7Entry] at hm
 refine calls_in Tryz.func116 rfl Tryz.ntmps116 rfl ?_
 refine sr ?_
 refine wl_box wn rfl rfl hS ?_
 intro g15 w16 hS17
 have hS18 : SH _ _ _ _ _ [obj g15 [.slice a1 n2 c3, .slice a5 n6 c7] 26] := hS17
 refine wl_alloc wn rfl tf94 hS18 ?_
 intro g19 w20 hS21
 have hS22 : SH _ _ _ _ _ [obj g19 [sv [], sv [], .slice none 0 0] 94, _] := hS21
 refine nr ?_
 refine vm rfl rfl ?_
 refine vm rfl rfl ?_
 refine wl_val wn rfl (rv_build (cs := #[sv p2_field, sv p3_term, .slice none 0 0]) sp94 tf94 rfl (by kernel_rfl)) ?_
 refine wl_alloc wn rfl tf94 hS22 ?_
 intro g23 w24 hS25
 have hS26 : SH _ _ _ _ _ [obj g23 [sv [], sv [], .slice none 0 0] 94, _, _] := hS25
 refine wl_store (cs' := [sv p2_field, sv p3_term, .slice none 0 0]) (v := .agg #[sv p2_field, sv p3_term, .slice none 0 0]) wn tf94 rfl rfl rfl (by simp [Value.cells, Value.oneCell', sv]) hS26 rfl rfl ?_
 intro w27 hS28
 refine nsr ?_
 refine wl_val wn rfl (rv_assign (v := .int .i64 0) rfl) ?_
 refine nq ?_
 obtain ⟨o29, h30, h31⟩ := ob hm
 refine wc_cutg (fun E' w' => ∃ (a38 : Option Addr) (n39 c40 : Nat) (K32 : KMap), E' = [(8, .pointer (some ⟨g19, 0, none⟩)), (9, .pointer (some ⟨g23, 0, none⟩))] ∧ SH w K [] w' K32 [obj g19 [sv [], sv [], .slice none 0 0] 94, obj g23 [sv o29.Field, sv o29.Term, .slice a38 n39 c40] 94, tail (.slice a38 n39 c40) 48 2] ∧ KLe K K32 ∧ o29.Field.length ≤ maxLen ∧ o29.Term.length ≤ maxLen ∧ SliceAt tGPost K32 a38 n39 c40 o29.Posts) ?_ ?_
 ·refine wc_block ?_
  obtain ⟨r43, h44, h45⟩ := ob h30
  have hS57 := SH.nil hS28 48 2
  have hS58 : SH _ _ _ _ _ [_, _, _, _] := SH.front (p := [_]) hS57
  have hS59 : SH _ _ _ _ _ [_, _, _, _] := SH.front (p := [_, _]) hS58
  have hS60 : SH _ _ _ _ _ [_, _, _, _] := SH.front (p := [_, _, _]) hS59
  refine wc_while' (fun (s42 : Int × GEntry) E' w' => ∃ (a53 : Option Addr) (n54 c55 : Nat) (K46 : KMap), E' = [(1, .slice a9 n10 c11), (2, sv p2_field), (3, sv p3_term), (4, .pointer (some ⟨g15, 0, none⟩)), (8, .pointer (some ⟨g19, 0, none⟩)), (9, .pointer (some ⟨g23, 0, none⟩)), (10, .int .i64 s42.1)] ∧ SH w K [] w' K46 [obj g15 [.slice a1 n2 c3, .slice a5 n6 c7] 26, obj g19 [sv [], sv [], .slice none 0 0] 94, obj g23 [sv s42.2.Field, sv s42.2.Term, .slice a53 n54 c55] 94, tail (.slice a53 n54 c55) 48 2] ∧ KLe K K46 ∧ rng64 s42.1 ∧ s42.2.Field.length ≤ maxLen ∧ s42.2.Term.length ≤ maxLen ∧ SliceAt tGPost K46 a53 n54 c55 s42.2.Posts) h44 ⟨none, 0, 0, K, rfl, hS60, (KLe.refl _), (by decide : rng64 0), hl13, hl14, (SliceAt.nil _ _)⟩ ⟨rfl, rfl, rfl, rfl, rfl, rfl, rfl, trivial⟩ ?_
  rintro s42 _ w48 r61 h62 hx63 ⟨a53, n54, c55, K46, rfl, hS49, hl47, hr50, hl51, hl52, hs56⟩
  refine wc_seq ?_
  refine sr ?_
  refine vm rfl rfl ?_
  refine vm rfl rfl ?_
  refine wl_val wn rfl (rv_len (t := tGDoc) Tryz.underlying27 rfl (SliceAt.mono hl47 hs12)) ?_
  refine wl_val wn rfl (rv_lss rfl rfl) ?_
  refine nq ?_
  refine wc_cond rfl (fun hb64 => ?_) (fun hb64 => ?_)
  ·have h65 := cond_t hb64 h62
   refine wc_skip ?_
   refine qs ?_
   refine wc_block ?_
   refine wc_seq ?_
   refine wc_held (fun w' => Holds K46 w' ∧ HasObj g15 [.slice a1 n2 c3, .slice a5 n6 c7] w') (fun w' => True) 9 [] mixed ?_
   have hS67 := SH.drew hS49
   refine wg_val (i := 0) (listed' := #[true, false, false, false, false, false, false, false, false]) (HasObj g15 [.slice a1 n2 c3, .slice a5 n6 c7]) rfl (by kernel_rfl) (pk_then (pk_block (pk_then (pk_then (pk_block (pk_then (pk_then pk_body))))))) (by kernel_rfl) rfl (by kernel_rfl) (by kernel_rfl) rfl (.inl fun _ h => h.2) ⟨⟨hS67.hasK (KLe.refl _), hS67.hasObj (.head _)⟩, (fun _ => trivial), by decide⟩ wn rfl (fun _ h => rh_loadmS (ds := [.slice a1 n2 c3, .slice a5 n6 c7]) tf26 rfl rfl rfl h) ?_
   refine wg_val (i := 1) (listed' := #[true, true, false, false, false, false, false, false, false]) (fun _ => True) rfl (by kernel_rfl) (pk_then (pk_block (pk_then (pk_then (pk_block (pk_then (pk_then pk_body))))))) (by kernel_rfl) rfl (by kernel_rfl) (by kernel_rfl) rfl (.inl fun _ _ => trivial) ⟨⟨hS67.hasK (KLe.refl _), hS67.hasObj (.head _)⟩, (fun _ => trivial), by decide⟩ wn rfl (fun _ _ => (rv_move rfl)) ?_
   refine wg_val (i := 2) (listed' := #[true, true, true, false, false, false, false, false, false]) (fun _ => True) rfl (by kernel_rfl) (pk_then (pk_block (pk_then (pk_then (pk_block (pk_then (pk_then pk_body))))))) (by kernel_rfl) rfl (by kernel_rfl) (by kernel_rfl) rfl (.inl fun _ _ => trivial) ⟨⟨hS67.hasK (KLe.refl _), hS67.hasObj (.head _)⟩, (fun _ => trivial), by decide⟩ wn rfl (fun _ _ => (rv_move rfl)) ?_
   obtain ⟨x68, hx69, h70⟩ := ob h65
   refine wg_indexAddr (t := tGDoc) (j := 3) (listed' := #[true, true, true, true, false, false, false, false, false]) rfl (by kernel_rfl) (pk_then (pk_block (pk_then (pk_then (pk_block (pk_then (pk_then pk_body))))))) (by kernel_rfl) rfl (by kernel_rfl) (by kernel_rfl) rfl ⟨⟨hS67.hasK (KLe.refl _), hS67.hasObj (.head _)⟩, (fun _ => trivial), by decide⟩ wn rfl Tryz.underlying27 tf44 rfl rfl (SliceAt.mono hl47 hs12) hx69 ?_
   intro b71 o72 u73 hu74 ha75
   obtain ⟨a77, n78, c79, a81, n82, c83, rfl, hr76, hs80, hs84⟩ := hu74
   have ha85 : AtK _ b71 o72 [.int .i64 x68.Id, .slice a77 n78 c79, .slice a81 n82 c83] := ha75
   refine wg_val (i := 4) (listed' := #[true, true, true, true, true, false, false, false, false]) (Holds K46) rfl (by kernel_rfl) (pk_then (pk_block (pk_then (pk_then (pk_block (pk_then (pk_then pk_body))))))) (by kernel_rfl) rfl (by kernel_rfl) (by kernel_rfl) rfl (.inl fun _ h => h.1) ⟨⟨hS67.hasK (KLe.refl _), hS67.hasObj (.head _)⟩, (fun _ => trivial), by decide⟩ wn rfl (fun _ h => rh_loadS (cs := [.int .i64 x68.Id, .slice a77 n78 c79, .slice a81 n82 c83]) tf44 rfl ha85 rfl h) ?_
   refine wg_val (i := 5) (listed' := #[true, true, true, true, true, true, false, false, false]) (fun _ => True) rfl (by kernel_rfl) (pk_then (pk_block (pk_then (pk_then (pk_block (pk_then (pk_then pk_body))))))) (by kernel_rfl) rfl (by kernel_rfl) (by kernel_rfl) rfl (.inl fun _ _ => trivial) ⟨⟨hS67.hasK (KLe.refl _), hS67.hasObj (.head _)⟩, (fun _ => trivial), by decide⟩ wn rfl (fun _ _ => (rv_move rfl)) ?_
   refine wg_val (i := 6) (listed' := #[true, true, true, true, true, true, true, false, false]) (fun _ => True) rfl (by kernel_rfl) (pk_then (pk_block (pk_then (pk_then (pk_block (pk_then (pk_then pk_body))))))) (by kernel_rfl) rfl (by kernel_rfl) (by kernel_rfl) rfl (.inl fun _ _ => trivial) ⟨⟨hS67.hasK (KLe.refl _), hS67.hasObj (.head _)⟩, (fun _ => trivial), by decide⟩ wn rfl (fun _ _ => (rv_move rfl)) ?_
   refine wg_one (i := 7) (by kernel_rfl) rfl ?_
   obtain ⟨r86, hx87, h88⟩ := ob h70
   refine wl_call wn rfl (rt_call (vs := [.agg #[.slice a1 n2 c3, .slice a5 n6 c7], .agg #[.int .i64 x68.Id, .slice a77 n78 c79, .slice a81 n82 c83], sv p2_field, sv p3_term]) co150 rfl) ((ok_spec_l7Post F) hS67.enter0 (SliceAt.mono hl47 hs4) (SliceAt.mono hl47 hs8) hr76 hs80 hs84 hl13 hl14 hx87) ?_
   rintro e96 w90 ⟨a92, n93, c94, K89, rfl, hS91, hs95⟩
   refine ⟨_, rfl, ?_⟩
   have hS97 : SH _ _ _ _ _ [_, _, _, _, _] := SH.call0 hS67 hS91
   refine wl_nil (qe_held (listed' := #[true, true, true, true, true, true, true, true, false]) rfl ⟨⟨hS97.hasK hS91.le, hS97.hasObj (.tail _ (.head _))⟩, (fun _ => trivial), by decide⟩ ?_)
   refine wg_val (i := 8) (listed' := #[true, true, true, true, true, true, true, true, true]) (fun _ => True) rfl (by kernel_rfl) (pk_then (pk_block (pk_then (pk_then (pk_block (pk_then (pk_then pk_body))))))) (by kernel_rfl) rfl (by kernel_rfl) (by kernel_rfl) rfl (.inl fun _ _ => trivial) ⟨⟨hS97.hasK hS91.le, hS97.hasObj (.tail _ (.head _))⟩, (fun _ => trivial), by decide⟩ wn rfl (fun _ _ => (rv_assign rfl)) ?_
   refine wg_done (by kernel_rfl) ?_
   refine qr ?_
   refine vm rfl rfl ?_
   refine wl_val wn rfl (rv_len (t := tInt) Tryz.underlying37 rfl hs95) ?_
   refine wl_val wn rfl (rv_gtr rfl rfl) ?_
   refine nq ?_
   refine wc_cond rfl (fun hb98 => ?_) (fun hb98 => ?_)
   ·have h99 := cond_t hb98 h88
    refine wc_held (fun w' => Holds K89 w') (fun w' => HasObj g23 [sv s42.2.Field, sv s42.2.Term, .slice a53 n54 c55] w') 12 [(1, 10), (1, 11), (1, 12), (10, 11), (10, 12), (11, 12)] mixed ?_
    have hS101 := SH.drew hS97
    refine wg_val (i := 0) (listed' := #[true, false, false, false, false, false, false, false, false, false, false, false, false]) (fun _ => True) rfl (by kernel_rfl) (pk_block (pk_then (pk_then (pk_block (pk_then (pk_then pk_body)))))) (by kernel_rfl) rfl (by kernel_rfl) (by kernel_rfl) rfl (.inl fun _ _ => trivial) ⟨(hS101.hasK (KLe.refl _)), (fun _ => hS101.hasObj (.tail _ (.tail _ (.tail _ (.head _))))), by decide⟩ wn rfl (fun _ _ => (rv_fieldAddr ff94_2 rfl)) ?_
    refine wg_val (i := 1) (listed' := #[true, true, false, false, false, false, false, false, false, false, false, false, false]) (HasObj g23 [sv s42.2.Field, sv s42.2.Term, .slice a53 n54 c55]) rfl (by kernel_rfl) (pk_block (pk_then (pk_then (pk_block (pk_then (pk_then pk_body)))))) (by kernel_rfl) rfl (by kernel_rfl) (by kernel_rfl) rfl (.inr ⟨rfl, fun _ _ h => h⟩) ⟨(hS101.hasK (KLe.refl _)), (fun _ => hS101.hasObj (.tail _ (.tail _ (.tail _ (.head _))))), by decide⟩ wn rfl (fun _ h => rh_loadm1 tf33 rfl rfl h) ?_
    refine wg_val (i := 2) (listed' := #[true, true, true, false, false, false, false, false, false, false, false, false, false]) (fun _ => True) rfl (by kernel_rfl) (pk_block (pk_then (pk_then (pk_block (pk_then (pk_then pk_body)))))) (by kernel_rfl) rfl (by kernel_rfl) (by kernel_rfl) rfl (.inl fun _ _ => trivial) ⟨(hS101.hasK (KLe.refl _)), (fun _ => hS101.hasObj (.tail _ (.tail _ (.tail _ (.head _))))), by decide⟩ wn rfl (fun _ _ => (rv_move rfl)) ?_
    refine wg_val (i := 3) (listed' := #[true, true, true, true, false, false, false, false, false, false, false, false, false]) (fun _ => True) rfl (by kernel_rfl) (pk_block (pk_then (pk_then (pk_block (pk_then (pk_then pk_body)))))) (by kernel_rfl) rfl (by kernel_rfl) (by kernel_rfl) rfl (.inl fun _ _ => trivial) ⟨(hS101.hasK (KLe.refl _)), (fun _ => hS101.hasObj (.tail _ (.tail _ (.tail _ (.head _))))), by decide⟩ wn rfl (fun _ _ => (rv_move rfl)) ?_
    obtain ⟨x102, hx103, h104⟩ := ob h99
    refine wg_indexAddr (t := tGDoc) (j := 4) (listed' := #[true, true, true, true, true, false, false, false, false, false, false, false, false]) rfl (by kernel_rfl) (pk_block (pk_then (pk_then (pk_block (pk_then (pk_then pk_body)))))) (by kernel_rfl) rfl (by kernel_rfl) (by kernel_rfl) rfl ⟨(hS101.hasK (KLe.refl _)), (fun _ => hS101.hasObj (.tail _ (.tail _ (.tail _ (.head _))))), by decide⟩ wn rfl Tryz.underlying27 tf44 rfl rfl (SliceAt.mono (hl47.trans hS91.le) hs12) hx103 ?_
    intro b105 o106 u107 hu108 ha109
    obtain ⟨a111, n112, c113, a115, n116, c117, rfl, hr110, hs114, hs118⟩ := hu108
    have ha119 : AtK _ b105 o106 [.int .i64 x102.Id, .slice a111 n112 c113, .slice a115 n116 c117] := ha109
    refine wg_val (i := 5) (listed' := #[true, true, true, true, true, true, false, false, false, false, false, false, false]) (fun _ => True) rfl (by kernel_rfl) (pk_block (pk_then (pk_then (pk_block (pk_then (pk_then pk_body)))))) (by kernel_rfl) rfl (by kernel_rfl) (by kernel_rfl) rfl (.inl fun _ _ => trivial) ⟨(hS101.hasK (KLe.refl _)), (fun _ => hS101.hasObj (.tail _ (.tail _ (.tail _ (.head _))))), by decide⟩ wn rfl (fun _ _ => (rv_fieldAddr ff44_0 rfl)) ?_
    refine wg_val (i := 6) (listed' := #[true, true, true, true, true, true, true, false, false, false, false, false, false]) (Holds K89) rfl (by kernel_rfl) (pk_block (pk_then (pk_then (pk_block (pk_then (pk_then pk_body)))))) (by kernel_rfl) rfl (by kernel_rfl) (by kernel_rfl) rfl (.inl fun _ h => h) ⟨(hS101.hasK (KLe.refl _)), (fun _ => hS101.hasObj (.tail _ (.tail _ (.tail _ (.head _))))), by decide⟩ wn rfl (fun _ h => rh_load1 tf3 rfl (ha119 0 _ rfl) h) ?_
    refine wg_val (i := 7) (listed' := #[true, true, true, true, true, true, true, true, false, false, false, false, false]) (fun _ => True) rfl (by kernel_rfl) (pk_block (pk_then (pk_then (pk_block (pk_then (pk_then pk_body)))))) (by kernel_rfl) rfl (by kernel_rfl) (by kernel_rfl) rfl (.inl fun _ _ => trivial) ⟨(hS101.hasK (KLe.refl _)), (fun _ => hS101.hasObj (.tail _ (.tail _ (.tail _ (.head _))))), by decide⟩ wn rfl (fun _ _ => (rv_move rfl)) ?_
    refine wg_val (i := 8) (listed' := #[true, true, true, true, true, true, true, true, true, false, false, false, false]) (fun _ => True) rfl (by kernel_rfl) (pk_block (pk_then (pk_then (pk_block (pk_then (pk_then pk_body)))))) (by kernel_rfl) rfl (by kernel_rfl) (by kernel_rfl) rfl (.inl fun _ _ => trivial) ⟨(hS101.hasK (KLe.refl _)), (fun _ => hS101.hasObj (.tail _ (.tail _ (.tail _ (.head _))))), by decide⟩ wn rfl (fun _ _ => (rv_build (cs := #[.int .i64 x102.Id, .slice a92 n93 c94]) sp48 tf48 rfl (by kernel_rfl))) ?_
    refine wg_one (i := 9) (by kernel_rfl) rfl ?_
    refine wl_buildSlice (t := tGPost) (n := 1) (pv := [(0, .agg #[.int .i64 x102.Id, .slice a92 n93 c94])]) (cs := [.int .i64 x102.Id, .slice a92 n93 c94]) (xs := [(GPost.mk x102.Id r86)]) wn rfl Tryz.underlying33 tf48 rfl rfl rfl (by kernel_rfl) rfl rfl (lit_cons (u := .agg #[.int .i64 x102.Id, .slice a92 n93 c94]) (z := (GPost.mk x102.Id r86)) ⟨a92, n93, c94, rfl, hr110, hs95⟩ lit_nil) hS101 ?_
    intro a120 w121 K122 hl123 hs124 hS125
    refine wl_nil (qe_held (listed' := #[true, true, true, true, true, true, true, true, true, true, false, false, false]) rfl ⟨(hS125.hasK hl123), (fun _ => hS125.hasObj (.tail _ (.tail _ (.tail _ (.tail _ (.head _)))))), by decide⟩ ?_)
    refine wg_one (i := 10) (by kernel_rfl) rfl ?_
    have hS126 : SH _ _ _ _ _ [_, _, _, _, _, _] := SH.front (p := [_, _, _, _, _]) hS125
    obtain ⟨x127, hx128, h129⟩ := ob h104
    refine wl_append (t := tGPost) wn rfl Tryz.underlying33 tf48 rfl rfl rfl rfl rfl (SliceAt.mono (hS91.le.trans hl123) hs56) hs124 hx128 hS126 ?_
    intro a130 n131 c132 w133 K134 hl135 hs136 hS137
    refine wl_nil (qe_held (listed' := #[true, true, true, true, true, true, true, true, true, true, true, false, false]) rfl ⟨(hS137.hasK (hl123.trans hl135)), (fun _ => hS137.hasObj (.tail _ (.tail _ (.tail _ (.tail _ (.tail _ (.head _))))))), by decide⟩ ?_)
    refine wg_val (i := 11) (listed' := #[true, true, true, true, true, true, true, true, true, true, true, true, false]) (fun _ => True) rfl (by kernel_rfl) (pk_block (pk_then (pk_then (pk_block (pk_then (pk_then pk_body)))))) (by kernel_rfl) rfl (by kernel_rfl) (by kernel_rfl) rfl (.inl fun _ _ => trivial) ⟨(hS137.hasK (hl123.trans hl135)), (fun _ => hS137.hasObj (.tail _ (.tail _ (.tail _ (.tail _ (.tail _ (.head _))))))), by decide⟩ wn rfl (fun _ _ => (rv_fieldAddr ff94_2 rfl)) ?_
    refine wg_one (i := 12) (by kernel_rfl) rfl ?_
    have hS138 : SH _ _ _ _ _ [_, _, _, _, _, _] := SH.front (p := [_, _, _, _, _]) hS137
    refine wl_store (cs' := [sv s42.2.Field, sv s42.2.Term, .slice a130 n131 c132]) (v := .slice a130 n131 c132) wn tf33 rfl rfl rfl (by simp [Value.cells, Value.oneCell']) hS138 rfl rfl ?_
    intro w139 hS140
    refine wl_nil (qe_held (listed' := #[true, true, true, true, true, true, true, true, true, true, true, true, true]) rfl ⟨(hS140.hasK (hl123.trans hl135)), (fun h => nomatch h), by decide⟩ ?_)
    refine wg_done (by kernel_rfl) ?_
    refine qe_block ?_
    refine qe_seq ?_
    refine wc_region ?_
    refine vm rfl rfl ?_
    refine wl_val wn rfl (rv_add rfl rfl) ?_
    refine va rfl rfl ?_
    refine wl_nil ?_
    obtain rfl := oi h129
    have hS141 : SH _ _ _ _ _ [_, _, _, _, _, _] := SH.front (p := [_]) hS140
    have hS142 : SH _ _ _ _ _ [_, _, _, _, _, _] := SH.front (p := [_]) hS141
    have hS143 : SH _ _ _ _ _ [_, _, _, _, _, _] := SH.front (p := [_, _, _, _, _]) hS142
    have hS144 : SH _ _ _ _ _ [_, _, _, _, _, _] := SH.front (p := [_, _, _, _, _]) hS143
    have hS145 : SH _ _ _ _ _ [_, _, _, _] := SH.sublist hS144 (.cons_cons _ (.cons_cons _ (.cons_cons _ (.cons_cons _ (.cons _ (.cons _ .slnil))))))
    exact qe_mid' ⟨_, rfl, a130, n131, c132, K134, rfl, hS145, (((hl47.trans hS91.le).trans hl123).trans hl135), (w64_rng _), hl51, hl52, hs136⟩ ⟨rfl, rfl, rfl, rfl, rfl, rfl, rfl, trivial⟩
   ·have h99 := cond_f hb98 h88
    refine wc_skip ?_
    refine qe_block ?_
    refine qe_seq ?_
    refine wc_region ?_
    refine vm rfl rfl ?_
    refine wl_val wn rfl (rv_add rfl rfl) ?_
    refine va rfl rfl ?_
    refine wl_nil ?_
    obtain rfl := oi h99
    have hS146 : SH _ _ _ _ _ [_, _, _, _] := SH.sublist hS97 (.cons _ (.cons_cons _ (.cons_cons _ (.cons_cons _ (.cons_cons _ .slnil)))))
    exact qe_mid' ⟨_, rfl, a53, n54, c55, K89, rfl, hS146, (hl47.trans hS91.le), (w64_rng _), hl51, hl52, (SliceAt.mono hS91.le hs56)⟩ ⟨rfl, rfl, rfl, rfl, rfl, rfl, rfl, trivial⟩
  ·have h65 := cond_f hb64 h62
   refine wc_exit ?_
   refine qe_then_exit ?_
   refine qe_then_exit ?_
   obtain rfl := oi h65
   have e147 := hx63 _ rfl
   subst e147
   refine qe_block_eq ?_
   obtain rfl := oi h45
   have hS148 : SH _ _ _ _ _ [_, _, _] := SH.sublist hS49 (.cons _ (.cons_cons _ (.cons_cons _ (.cons_cons _ .slnil))))
   exact qe_mid' ⟨a53, n54, c55, K46, rfl, hS148, hl47, hl51, hl52, hs56⟩ ⟨rfl, rfl, trivial⟩
 ·rintro _ w34 ⟨a38, n39, c40, K32, rfl, hS35, hl33, hl36, hl37, hs41⟩
  refine qr ?_
  refine wl_val wn rfl (rv_loadmS (ds := [sv o29.Field, sv o29.Term, .slice a38 n39 c40]) tf94 rfl (.tail _ (.head _)) hS35 rfl rfl) ?_
  refine wl_store (cs' := [sv o29.Field, sv o29.Term, .slice a38 n39 c40]) (v := .agg #[sv o29.Field, sv o29.Term, .slice a38 n39 c40]) wn tf94 rfl rfl rfl (by simp [Value.cells, Value.oneCell', sv]) hS35 rfl rfl ?_
  intro w149 hS150
  refine nq ?_
  refine wc_ret ?_
  obtain rfl := oi h31
  have hS151 : SH _ _ _ _ _ [_] := SH.sublist hS150 (.cons _ (.cons _ (.cons_cons _ .slnil)))
  exact qe_ret (vs := [_]) Tryz.results116 ⟨⟨_, _, rfl, run_loadVar_at tf94 (cs := [sv o29.Field, sv o29.Term, .slice a38 n39 c40]) (fun j c e => by rw [Nat.zero_add, hS150.mem_obj (.head _)]; exact e) (.inl ⟨rfl, rfl, rfl⟩)⟩, trivial⟩ ⟨a38, n39, c40, K32, rfl, hS151, hl36, hl37, hs41⟩

theorem ok_spec_l7CopyDoc (F : Nat) {w : World} {K : KMap} {a2 : Option Addr} {n3 c4 : Nat} {a6 : Option Addr} {n7 c8 : Nat} {p0_d : GDoc} {r : GDoc} (hS : SH w K [] w K []) (hr1 : rng64 p0_d.Id) (hs5 : SliceAt tGField K a2 n3 c4 p0_d.Fields) (hs9 : SliceAt tGAttr K a6 n7 c8 p0_d.Nums) (hm : M.spec_l7CopyDoc F p0_d = some r) :
  Calls Tryz.prog 117 #[.agg #[.int .i64 p0_d.Id, .slice a2 n3 c4, .slice a6 n7 c8]] w fun e w' => ∃ (a_2 : Option Addr) (n_3 c_4 : Nat) (a_6 : Option Addr) (n_7 c_8 : Nat) (K' : KMap), e = .returned (.agg #[.int .i64 r.Id, .slice a_2 n_3 c_4, .slice a_6 n_7 c_8]) ∧ SH w K [] w' K' [tail (.slice a_2 n_3 c_4) 109 2, tail (.slice a_6 n_7 c_8) 152 2] ∧ rng64 r.Id ∧ SliceAt tGField K' a_2 n_3 c_4 r.Fields ∧ SliceAt tGAttr K' a_6 n_7 c_8 r.Nums := by
 rw [M.spec_l7CopyDoc] at hm
 refine calls_in Tryz.func117 rfl Tryz.ntmps117 rfl ?_
 refine sr ?_
 refine wl_box wn rfl rfl hS ?_
 intro g10 w11 hS12
 have hS13 : SH _ _ _ _ _ [obj g10 [.int .i64 p0_d.Id, .slice a2 n3 c4, .slice a6 n7 c8] 44] := hS12
 refine wl_alloc wn rfl tf44 hS13 ?_
 intro g14 w15 hS16
 have hS17 : SH _ _ _ _ _ [obj g14 [.int .i64 0, .slice none 0 0, .slice none 0 0] 44, _] := hS16
 refine ns ?_
 obtain ⟨x26, hx27, h28⟩ := ob hm
 obtain ⟨x43, hx44, h45⟩ := ob h28
 refine wc_held (fun w' => Holds K w' ∧ HasObj g10 [.int .i64 p0_d.Id, .slice a2 n3 c4, .slice a6 n7 c8] w') (fun w' => True) 12 [] mixed ?_
 have hS19 := SH.drew hS17
 refine wg_val (i := 0) (listed' := #[true, false, false, false, false, false, false, false, false, false, false, false]) (fun _ => True) rfl (by kernel_rfl) (pk_then pk_body) (by kernel_rfl) rfl (by kernel_rfl) (by kernel_rfl) rfl (.inl fun _ _ => trivial) ⟨⟨hS19.hasK (KLe.refl _), hS19.hasObj (.tail _ (.head _))⟩, (fun _ => trivial), by decide⟩ wn rfl (fun _ _ => (rv_fieldAddr ff44_0 rfl)) ?_
 refine wg_val (i := 1) (listed' := #[true, true, false, false, false, false, false, false, false, false, false, false]) (HasObj g10 [.int .i64 p0_d.Id, .slice a2 n3 c4, .slice a6 n7 c8]) rfl (by kernel_rfl) (pk_then pk_body) (by kernel_rfl) rfl (by kernel_rfl) (by kernel_rfl) rfl (.inl fun _ h => h.2) ⟨⟨hS19.hasK (KLe.refl _), hS19.hasObj (.tail _ (.head _))⟩, (fun _ => trivial), by decide⟩ wn rfl (fun _ h => rh_loadm1 tf3 rfl rfl h) ?_
 refine wg_val (i := 3) (listed' := #[true, true, false, true, false, false, false, false, false, false, false, false]) (fun _ => True) rfl (by kernel_rfl) (pk_then pk_body) (by kernel_rfl) rfl (by kernel_rfl) (by kernel_rfl) rfl (.inl fun _ _ => trivial) ⟨⟨hS19.hasK (KLe.refl _), hS19.hasObj (.tail _ (.head _))⟩, (fun _ => trivial), by decide⟩ wn rfl (fun _ _ => (rv_fieldAddr ff44_1 rfl)) ?_
 refine wg_val (i := 4) (listed' := #[true, true, false, true, true, false, false, false, false, false, false, false]) (HasObj g10 [.int .i64 p0_d.Id, .slice a2 n3 c4, .slice a6 n7 c8]) rfl (by kernel_rfl) (pk_then pk_body) (by kernel_rfl) rfl (by kernel_rfl) (by kernel_rfl) rfl (.inl fun _ h => h.2) ⟨⟨hS19.hasK (KLe.refl _), hS19.hasObj (.tail _ (.head _))⟩, (fun _ => trivial), by decide⟩ wn rfl (fun _ h => rh_loadm1 tf41 rfl rfl h) ?_
 refine wg_val (i := 7) (listed' := #[true, true, false, true, true, false, false, true, false, false, false, false]) (fun _ => True) rfl (by kernel_rfl) (pk_then pk_body) (by kernel_rfl) rfl (by kernel_rfl) (by kernel_rfl) rfl (.inl fun _ _ => trivial) ⟨⟨hS19.hasK (KLe.refl _), hS19.hasObj (.tail _ (.head _))⟩, (fun _ => trivial), by decide⟩ wn rfl (fun _ _ => (rv_fieldAddr ff44_2 rfl)) ?_
 refine wg_val (i := 8) (listed' := #[true, true, false, true, true, false, false, true, true, false, false, false]) (HasObj g10 [.int .i64 p0_d.Id, .slice a2 n3 c4, .slice a6 n7 c8]) rfl (by kernel_rfl) (pk_then pk_body) (by kernel_rfl) rfl (by kernel_rfl) (by kernel_rfl) rfl (.inl fun _ h => h.2) ⟨⟨hS19.hasK (KLe.refl _), hS19.hasObj (.tail _ (.head _))⟩, (fun _ => trivial), by decide⟩ wn rfl (fun _ h => rh_loadm1 tf42 rfl rfl h) ?_
 refine wg_many (l := [2, 6]) (by kernel_rfl) rfl ⟨⟨_, rfl, ?_⟩, ⟨_, rfl, ?_⟩, trivial⟩
 ·refine wl_buildSlice0 tGField wn rfl Tryz.underlying41 tf109 hS19 ?_
  intro a57 w58 K59 hl60 hs61 hS62
  refine wl_nil (qe_held (listed' := #[true, true, true, true, true, false, false, true, true, false, false, false]) rfl ⟨⟨hS62.hasK hl60, hS62.hasObj (.tail _ (.tail _ (.head _)))⟩, (fun _ => trivial), by decide⟩ ?_)
  refine wg_many (l := [5, 6]) (by kernel_rfl) rfl ⟨⟨_, rfl, ?_⟩, ⟨_, rfl, ?_⟩, trivial⟩
  ·refine wl_append (t := tGField) wn rfl Tryz.underlying41 tf109 rfl rfl rfl rfl rfl hs61 (SliceAt.mono hl60 hs5) hx27 hS62 ?_
   intro a63 n64 c65 w66 K67 hl68 hs69 hS70
   refine wl_nil (qe_held (listed' := #[true, true, true, true, true, true, false, true, true, false, false, false]) rfl ⟨⟨hS70.hasK (hl60.trans hl68), hS70.hasObj (.tail _ (.tail _ (.head _)))⟩, (fun _ => trivial), by decide⟩ ?_)
   refine wg_one (i := 6) (by kernel_rfl) rfl ?_
   refine wl_buildSlice0 tGAttr wn rfl Tryz.underlying42 tf152 hS70 ?_
   intro a71 w72 K73 hl74 hs75 hS76
   refine wl_nil (qe_held (listed' := #[true, true, true, true, true, true, true, true, true, false, false, false]) rfl ⟨⟨hS76.hasK ((hl60.trans hl68).trans hl74), hS76.hasObj (.tail _ (.tail _ (.tail _ (.head _))))⟩, (fun _ => trivial), by decide⟩ ?_)
   refine wg_one (i := 9) (by kernel_rfl) rfl ?_
   refine wl_append (t := tGAttr) wn rfl Tryz.underlying42 tf152 rfl rfl rfl rfl rfl hs75 (SliceAt.mono ((hl60.trans hl68).trans hl74) hs9) hx44 hS76 ?_
   intro a77 n78 c79 w80 K81 hl82 hs83 hS84
   refine wl_nil (qe_held (listed' := #[true, true, true, true, true, true, true, true, true, true, false, false]) rfl ⟨⟨hS84.hasK (((hl60.trans hl68).trans hl74).trans hl82), hS84.hasObj (.tail _ (.tail _ (.tail _ (.head _))))⟩, (fun _ => trivial), by decide⟩ ?_)
   refine wg_val (i := 10) (listed' := #[true, true, true, true, true, true, true, true, true, true, true, false]) (fun _ => True) rfl (by kernel_rfl) (pk_then pk_body) (by kernel_rfl) rfl (by kernel_rfl) (by kernel_rfl) rfl (.inl fun _ _ => trivial) ⟨⟨hS84.hasK (((hl60.trans hl68).trans hl74).trans hl82), hS84.hasObj (.tail _ (.tail _ (.tail _ (.head _))))⟩, (fun _ => trivial), by decide⟩ wn rfl (fun _ _ => (rv_build (cs := #[.int .i64 p0_d.Id, .slice a63 n64 c65, .slice a77 n78 c79]) sp44 tf44 rfl (by kernel_rfl))) ?_
   refine wg_one (i := 11) (by kernel_rfl) rfl ?_
   have hS85 : SH _ _ _ _ _ [_, _, _, _] := SH.front (p := [_, _]) hS84
   refine wl_store (cs' := [.int .i64 p0_d.Id, .slice a63 n64 c65, .slice a77 n78 c79]) (v := .agg #[.int .i64 p0_d.Id, .slice a63 n64 c65, .slice a77 n78 c79]) wn tf44 rfl rfl rfl (by simp [Value.cells, Value.oneCell']) hS85 rfl rfl ?_
   intro w86 hS87
   refine wl_nil (qe_held (listed' := #[true, true, true, true, true, true, true, true, true, true, true, true]) rfl ⟨⟨hS87.hasK (((hl60.trans hl68).trans hl74).trans hl82), hS87.hasObj (.tail _ (.tail _ (.tail _ (.head _))))⟩, (fun _ => trivial), by decide⟩ ?_)
   refine wg_done (by kernel_rfl) ?_
   refine qe_seq ?_
   refine wc_ret ?_
   obtain rfl := oi h45
   have hS88 : SH _ _ _ _ _ [_, _, _, _] := SH.front (p := [_]) hS87
   have hS89 : SH _ _ _ _ _ [_, _, _, _] := SH.front (p := [_, _]) hS88
   have hS90 : SH _ _ _ _ _ [_, _] := SH.sublist hS89 (.cons_cons _ (.cons_cons _ (.cons _ (.cons _ .slnil))))
   exact qe_ret (vs := [_]) Tryz.results117 ⟨⟨_, _, rfl, run_loadVar_at tf44 (cs := [.int .i64 p0_d.Id, .slice a63 n64 c65, .slice a77 n78 c79]) (fun j c e => by rw [Nat.zero_add, hS87.mem_obj (.head _)]; exact e) (.inl ⟨rfl, rfl, rfl⟩)⟩, trivial⟩ ⟨a63, n64, c65, a77, n78, c79, K81, rfl, hS90, hr1, (SliceAt.mono (hl74.trans hl82) hs69), hs83⟩
  ·refine wl_buildSlice0 tGAttr wn rfl Tryz.underlying42 tf152 hS62 ?_
   intro a91 w92 K93 hl94 hs95 hS96
   refine wl_nil (qe_held (listed' := #[true, true, true, true, true, false, true, true, true, false, false, false]) rfl ⟨⟨hS96.hasK (hl60.trans hl94), hS96.hasObj (.tail _ (.tail _ (.tail _ (.head _))))⟩, (fun _ => trivial), by decide⟩ ?_)
   refine wg_one (i := 5) (by kernel_rfl) rfl ?_
   have hS97 : SH _ _ _ _ _ [_, _, _, _] := SH.front (p := [_]) hS96
   refine wl_append (t := tGField) wn rfl Tryz.underlying41 tf109 rfl rfl rfl rfl rfl (SliceAt.mono hl94 hs61) (SliceAt.mono (hl60.trans hl94) hs5) hx27 hS97 ?_
   intro a98 n99 c100 w101 K102 hl103 hs104 hS105
   refine wl_nil (qe_held (listed' := #[true, true, true, true, true, true, true, true, true, false, false, false]) rfl ⟨⟨hS105.hasK ((hl60.trans hl94).trans hl103), hS105.hasObj (.tail _ (.tail _ (.tail _ (.head _))))⟩, (fun _ => trivial), by decide⟩ ?_)
   refine wg_one (i := 9) (by kernel_rfl) rfl ?_
   have hS106 : SH _ _ _ _ _ [_, _, _, _] := SH.front (p := [_]) hS105
   refine wl_append (t := tGAttr) wn rfl Tryz.underlying42 tf152 rfl rfl rfl rfl rfl (SliceAt.mono hl103 hs95) (SliceAt.mono ((hl60.trans hl94).trans hl103) hs9) hx44 hS106 ?_
   intro a107 n108 c109 w110 K111 hl112 hs113 hS114
   refine wl_nil (qe_held (listed' := #[true, true, true, true, true, true, true, true, true, true, false, false]) rfl ⟨⟨hS114.hasK (((hl60.trans hl94).trans hl103).trans hl112), hS114.hasObj (.tail _ (.tail _ (.tail _ (.head _))))⟩, (fun _ => trivial), by decide⟩ ?_)
   refine wg_val (i := 10) (listed' := #[true, true, true, true, true, true, true, true, true, true, true, false]) (fun _ => True) rfl (by kernel_rfl) (pk_then pk_body) (by kernel_rfl) rfl (by kernel_rfl) (by kernel_rfl) rfl (.inl fun _ _ => trivial) ⟨⟨hS114.hasK (((hl60.trans hl94).trans hl103).trans hl112), hS114.hasObj (.tail _ (.tail _ (.tail _ (.head _))))⟩, (fun _ => trivial), by decide⟩ wn rfl (fun _ _ => (rv_build (cs := #[.int .i64 p0_d.Id, .slice a98 n99 c100, .slice a107 n108 c109]) sp44 tf44 rfl (by kernel_rfl))) ?_
   refine wg_one (i := 11) (by kernel_rfl) rfl ?_
   have hS115 : SH _ _ _ _ _ [_, _, _, _] := SH.front (p := [_, _]) hS114
   refine wl_store (cs' := [.int .i64 p0_d.Id, .slice a98 n99 c100, .slice a107 n108 c109]) (v := .agg #[.int .i64 p0_d.Id, .slice a98 n99 c100, .slice a107 n108 c109]) wn tf44 rfl rfl rfl (by simp [Value.cells, Value.oneCell']) hS115 rfl rfl ?_
   intro w116 hS117
   refine wl_nil (qe_held (listed' := #[true, true, true, true, true, true, true, true, true, true, true, true]) rfl ⟨⟨hS117.hasK (((hl60.trans hl94).trans hl103).trans hl112), hS117.hasObj (.tail _ (.tail _ (.tail _ (.head _))))⟩, (fun _ => trivial), by decide⟩ ?_)
   refine wg_done (by kernel_rfl) ?_
   refine qe_seq ?_
   refine wc_ret ?_
   obtain rfl := oi h45
   have hS118 : SH _ _ _ _ _ [_, _, _, _] := SH.front (p := [_]) hS117
   have hS119 : SH _ _ _ _ _ [_, _, _, _] := SH.front (p := [_, _]) hS118
   have hS120 : SH _ _ _ _ _ [_, _] := SH.sublist hS119 (.cons_cons _ (.cons_cons _ (.cons _ (.cons _ .slnil))))
   exact qe_ret (vs := [_]) Tryz.results117 ⟨⟨_, _, rfl, run_loadVar_at tf44 (cs := [.int .i64 p0_d.Id, .slice a98 n99 c100, .slice a107 n108 c109]) (fun j c e => by rw [Nat.zero_add, hS117.mem_obj (.head _)]; exact e) (.inl ⟨rfl, rfl, rfl⟩)⟩, trivial⟩ ⟨a98, n99, c100, a107, n108, c109, K111, rfl, hS120, hr1, (SliceAt.mono hl112 hs104), hs113⟩
 ·refine wl_buildSlice0 tGAttr wn rfl Tryz.underlying42 tf152 hS19 ?_
  intro a121 w122 K123 hl124 hs125 hS126
  refine wl_nil (qe_held (listed' := #[true, true, false, true, true, false, true, true, true, false, false, false]) rfl ⟨⟨hS126.hasK hl124, hS126.hasObj (.tail _ (.tail _ (.head _)))⟩, (fun _ => trivial), by decide⟩ ?_)
  refine wg_one (i := 2) (by kernel_rfl) rfl ?_
  refine wl_buildSlice0 tGField wn rfl Tryz.underlying41 tf109 hS126 ?_
  intro a127 w128 K129 hl130 hs131 hS132
  refine wl_nil (qe_held (listed' := #[true, true, true, true, true, false, true, true, true, false, false, false]) rfl ⟨⟨hS132.hasK (hl124.trans hl130), hS132.hasObj (.tail _ (.tail _ (.tail _ (.head _))))⟩, (fun _ => trivial), by decide⟩ ?_)
  refine wg_one (i := 5) (by kernel_rfl) rfl ?_
  refine wl_append (t := tGField) wn rfl Tryz.underlying41 tf109 rfl rfl rfl rfl rfl hs131 (SliceAt.mono (hl124.trans hl130) hs5) hx27 hS132 ?_
  intro a133 n134 c135 w136 K137 hl138 hs139 hS140
  refine wl_nil (qe_held (listed' := #[true, true, true, true, true, true, true, true, true, false, false, false]) rfl ⟨⟨hS140.hasK ((hl124.trans hl130).trans hl138), hS140.hasObj (.tail _ (.tail _ (.tail _ (.head _))))⟩, (fun _ => trivial), by decide⟩ ?_)
  refine wg_one (i := 9) (by kernel_rfl) rfl ?_
  have hS141 : SH _ _ _ _ _ [_, _, _, _] := SH.front (p := [_]) hS140
  refine wl_append (t := tGAttr) wn rfl Tryz.underlying42 tf152 rfl rfl rfl rfl rfl (SliceAt.mono (hl130.trans hl138) hs125) (SliceAt.mono ((hl124.trans hl130).trans hl138) hs9) hx44 hS141 ?_
  intro a142 n143 c144 w145 K146 hl147 hs148 hS149
  refine wl_nil (qe_held (listed' := #[true, true, true, true, true, true, true, true, true, true, false, false]) rfl ⟨⟨hS149.hasK (((hl124.trans hl130).trans hl138).trans hl147), hS149.hasObj (.tail _ (.tail _ (.tail _ (.head _))))⟩, (fun _ => trivial), by decide⟩ ?_)
  refine wg_val (i := 10) (listed' := #[true, true, true, true, true, true, true, true, true, true, true, false]) (fun _ => True) rfl (by kernel_rfl) (pk_then pk_body) (by kernel_rfl) rfl (by kernel_rfl) (by kernel_rfl) rfl (.inl fun _ _ => trivial) ⟨⟨hS149.hasK (((hl124.trans hl130).trans hl138).trans hl147), hS149.hasObj (.tail _ (.tail _ (.tail _ (.head _))))⟩, (fun _ => trivial), by decide⟩ wn rfl (fun _ _ => (rv_build (cs := #[.int .i64 p0_d.Id, .slice a133 n134 c135, .slice a142 n143 c144]) sp44 tf44 rfl (by kernel_rfl))) ?_
  refine wg_one (i := 11) (by kernel_rfl) rfl ?_
  have hS150 : SH _ _ _ _ _ [_, _, _, _] := SH.front (p := [_, _]) hS149
  refine wl_store (cs' := [.int .i64 p0_d.Id, .slice a133 n134 c135, .slice a142 n143 c144]) (v := .agg #[.int .i64 p0_d.Id, .slice a133 n134 c135, .slice a142 n143 c144]) wn tf44 rfl rfl rfl (by simp [Value.cells, Value.oneCell']) hS150 rfl rfl ?_
  intro w151 hS152
  refine wl_nil (qe_held (listed' := #[true, true, true, true, true, true, true, true, true, true, true, true]) rfl ⟨⟨hS152.hasK (((hl124.trans hl130).trans hl138).trans hl147), hS152.hasObj (.tail _ (.tail _ (.tail _ (.head _))))⟩, (fun _ => trivial), by decide⟩ ?_)
  refine wg_done (by kernel_rfl) ?_
  refine qe_seq ?_
  refine wc_ret ?_
  obtain rfl := oi h45
  have hS153 : SH _ _ _ _ _ [_, _, _, _] := SH.front (p := [_]) hS152
  have hS154 : SH _ _ _ _ _ [_, _, _, _] := SH.front (p := [_, _]) hS153
  have hS155 : SH _ _ _ _ _ [_, _] := SH.sublist hS154 (.cons_cons _ (.cons_cons _ (.cons _ (.cons _ .slnil))))
  exact qe_ret (vs := [_]) Tryz.results117 ⟨⟨_, _, rfl, run_loadVar_at tf44 (cs := [.int .i64 p0_d.Id, .slice a133 n134 c135, .slice a142 n143 c144]) (fun j c e => by rw [Nat.zero_add, hS152.mem_obj (.head _)]; exact e) (.inl ⟨rfl, rfl, rfl⟩)⟩, trivial⟩ ⟨a133, n134, c135, a142, n143, c144, K146, rfl, hS155, hr1, (SliceAt.mono hl147 hs139), hs148⟩

set_option maxHeartbeats 2000000 in
theorem ok_spec_l7Of (F : Nat) {w : World} {K : KMap} {a1 : Option Addr} {n2 c3 : Nat} {a5 : Option Addr} {n6 c7 : Nat} {a9 : Option Addr} {n10 c11 : Nat} {p0_c : GConf} {p1_docs : List GDoc} {r : GSeg} (hS : SH w K [] w K []) (hs4 : SliceAt tStr K a1 n2 c3 p0_c.Stops) (hs8 : SliceAt tGSyn K a5 n6 c7 p0_c.Syns) (hs12 : SliceAt tGDoc K a9 n10 c11 p1_docs) (hm : M.spec_l7Of F p0_c p1_docs = some r) :
  Calls Tryz.prog 66 #[.agg #[.slice a1 n2 c3, .slice a5 n6 c7], .slice a9 n10 c11] w fun e w' => ∃ (a_1 : Option Addr) (n_2 c_3 : Nat) (a_5 : Option Addr) (n_6 c_7 : Nat) (cs_8 : List Value) (K' : KMap), e = .returned (.agg #[.slice a_1 n_2 c_3, .slice a_5 n_6 c_7]) ∧ SH w K [] w' K' [tail (.slice a_1 n_2 c_3) 44 3, rowI (.slice a_5 n_6 c_7) cs_8 94 3] ∧ SliceAt tGDoc K' a_1 n_2 c_3 r.Docs ∧ RowAt true tGEntry K' cs_8 r.Entries ∧ n_6 = r.Entries.length := by
 rw [M.spec_l7Of] at hm
 refine calls_in Tryz.func66 rfl Tryz.ntmps66 rfl ?_
 refine sr ?_
 refine wl_box wn rfl rfl hS ?_
 intro g13 w14 hS15
 have hS16 : SH _ _ _ _ _ [obj g13 [.slice a1 n2 c3, .slice a5 n6 c7] 26] := hS15
 refine wl_alloc wn rfl tf30 hS16 ?_
 intro g17 w18 hS19
 have hS20 : SH _ _ _ _ _ [obj g17 [.slice none 0 0, .slice none 0 0] 30, _] := hS19
 refine nr ?_
 refine wl_val wn rfl (rv_build (cs := #[.slice none 0 0, .slice none 0 0]) sp30 tf30 rfl (by kernel_rfl)) ?_
 refine wl_alloc wn rfl tf30 hS20 ?_
 intro g21 w22 hS23
 have hS24 : SH _ _ _ _ _ [obj g21 [.slice none 0 0, .slice none 0 0] 30, _, _] := hS23
 refine wl_store (cs' := [.slice none 0 0, .slice none 0 0]) (v := .agg #[.slice none 0 0, .slice none 0 0]) wn tf30 rfl rfl rfl (by simp [Value.cells, Value.oneCell']) hS24 rfl rfl ?_
 intro w25 hS26
 refine nr ?_
 refine vm rfl rfl ?_
 obtain ⟨r27, hx28, h29⟩ := ob hm
 refine wl_call wn rfl (rt_call (vs := [.slice a9 n10 c11]) co114 rfl) ((ok_spec_l7Names F) hS26.enter0 hs12 hx28) ?_
 rintro e37 w31 ⟨a33, n34, c35, K30, rfl, hS32, hs36⟩
 refine ⟨_, rfl, ?_⟩
 have hS38 : SH _ _ _ _ _ [_, _, _, _] := SH.call0 hS26 hS32
 refine va rfl rfl ?_
 refine nsr ?_
 refine wl_val wn rfl (rv_assign (v := .int .i64 0) rfl) ?_
 refine nq ?_
 obtain ⟨o39, h40, h41⟩ := ob h29
 refine wc_cutg (fun E' w' => ∃ (a46 : Option Addr) (n47 c48 : Nat) (a50 : Option Addr) (n51 c52 : Nat) (cs53 : List Value) (K42 : KMap), E' = [(1, .slice a9 n10 c11), (4, .pointer (some ⟨g17, 0, none⟩)), (5, .pointer (some ⟨g21, 0, none⟩))] ∧ SH w K [] w' K42 [obj g17 [.slice none 0 0, .slice none 0 0] 30, obj g21 [.slice a46 n47 c48, .slice a50 n51 c52] 30, rowI (.slice a50 n51 c52) cs53 94 3, tail (.slice a46 n47 c48) 44 3] ∧ KLe K30 K42 ∧ SliceAt tGDoc K42 a46 n47 c48 o39.Docs ∧ RowAt true tGEntry K42 cs53 o39.Entries ∧ n51 = o39.Entries.length) ?_ ?_
 ·refine wc_block ?_
  obtain ⟨r57, h58, h59⟩ := ob h40
  have hS75 := SH.rowNil hS38 94 3
  have hS76 := SH.nil hS75 44 3
  have hS77 : SH _ _ _ _ _ [_, _, _, _, _, _] := SH.front (p := [_]) hS76
  have hS78 : SH _ _ _ _ _ [_, _, _, _, _, _] := SH.front (p := [_, _, _]) hS77
  have hS79 : SH _ _ _ _ _ [_, _, _, _, _, _] := SH.front (p := [_, _, _, _]) hS78
  have hS80 : SH _ _ _ _ _ [_, _, _, _, _, _] := SH.front (p := [_, _, _, _, _]) hS79
  have hS81 : SH _ _ _ _ _ [_, _, _, _, _] := SH.sublist hS80 (.cons_cons _ (.cons_cons _ (.cons_cons _ (.cons_cons _ (.cons_cons _ (.cons _ .slnil))))))
  refine wc_while' (fun (s56 : Int × GSeg) E' w' => ∃ (a65 : Option Addr) (n66 c67 : Nat) (a69 : Option Addr) (n70 c71 : Nat) (cs72 : List Value) (K60 : KMap), E' = [(1, .slice a9 n10 c11), (2, .pointer (some ⟨g13, 0, none⟩)), (4, .pointer (some ⟨g17, 0, none⟩)), (5, .pointer (some ⟨g21, 0, none⟩)), (6, .slice a33 n34 c35), (7, .int .i64 s56.1)] ∧ SH w K [] w' K60 [obj g13 [.slice a1 n2 c3, .slice a5 n6 c7] 26, obj g17 [.slice none 0 0, .slice none 0 0] 30, obj g21 [.slice a65 n66 c67, .slice a69 n70 c71] 30, rowI (.slice a69 n70 c71) cs72 94 3, tail (.slice a65 n66 c67) 44 3] ∧ KLe K30 K60 ∧ rng64 s56.1 ∧ SliceAt tGDoc K60 a65 n66 c67 s56.2.Docs ∧ RowAt true tGEntry K60 cs72 s56.2.Entries ∧ n70 = s56.2.Entries.length) h58 ⟨none, 0, 0, none, 0, 0, [], K30, rfl, hS81, (KLe.refl _), (by decide : rng64 0), (SliceAt.nil _ _), (RowAt.nil tGEntry _), rfl⟩ ⟨rfl, rfl, rfl, rfl, rfl, rfl, trivial⟩ ?_
  rintro s56 _ w62 r82 h83 hx84 ⟨a65, n66, c67, a69, n70, c71, cs72, K60, rfl, hS63, hl61, hr64, hs68, hrow73, hm74⟩
  refine wc_seq ?_
  refine sr ?_
  refine vm rfl rfl ?_
  refine vm rfl rfl ?_
  refine wl_val wn rfl (rv_len (t := tStr) Tryz.underlying23 rfl (SliceAt.mono hl61 hs36)) ?_
  refine wl_val wn rfl (rv_lss rfl rfl) ?_
  refine nq ?_
  refine wc_cond rfl (fun hb85 => ?_) (fun hb85 => ?_)
  ·have h86 := cond_t hb85 h83
   refine wc_skip ?_
   refine qs ?_
   refine wc_block ?_
   refine wc_seq ?_
   refine wc_held (fun w' => Holds K60 w' ∧ HasObj g13 [.slice a1 n2 c3, .slice a5 n6 c7] w') (fun w' => True) 8 [] mixed ?_
   have hS88 := SH.drew hS63
   refine wg_val (i := 0) (listed' := #[true, false, false, false, false, false, false, false]) (HasObj g13 [.slice a1 n2 c3, .slice a5 n6 c7]) rfl (by kernel_rfl) (pk_then (pk_block (pk_then (pk_then (pk_block (pk_then (pk_then pk_body))))))) (by kernel_rfl) rfl (by kernel_rfl) (by kernel_rfl) rfl (.inl fun _ h => h.2) ⟨⟨hS88.hasK (KLe.refl _), hS88.hasObj (.head _)⟩, (fun _ => trivial), by decide⟩ wn rfl (fun _ h => rh_loadmS (ds := [.slice a1 n2 c3, .slice a5 n6 c7]) tf26 rfl rfl rfl h) ?_
   refine wg_val (i := 1) (listed' := #[true, true, false, false, false, false, false, false]) (fun _ => True) rfl (by kernel_rfl) (pk_then (pk_block (pk_then (pk_then (pk_block (pk_then (pk_then pk_body))))))) (by kernel_rfl) rfl (by kernel_rfl) (by kernel_rfl) rfl (.inl fun _ _ => trivial) ⟨⟨hS88.hasK (KLe.refl _), hS88.hasObj (.head _)⟩, (fun _ => trivial), by decide⟩ wn rfl (fun _ _ => (rv_move rfl)) ?_
   refine wg_val (i := 2) (listed' := #[true, true, true, false, false, false, false, false]) (fun _ => True) rfl (by kernel_rfl) (pk_then (pk_block (pk_then (pk_then (pk_block (pk_then (pk_then pk_body))))))) (by kernel_rfl) rfl (by kernel_rfl) (by kernel_rfl) rfl (.inl fun _ _ => trivial) ⟨⟨hS88.hasK (KLe.refl _), hS88.hasObj (.head _)⟩, (fun _ => trivial), by decide⟩ wn rfl (fun _ _ => (rv_move rfl)) ?_
   refine wg_val (i := 3) (listed' := #[true, true, true, true, false, false, false, false]) (fun _ => True) rfl (by kernel_rfl) (pk_then (pk_block (pk_then (pk_then (pk_block (pk_then (pk_then pk_body))))))) (by kernel_rfl) rfl (by kernel_rfl) (by kernel_rfl) rfl (.inl fun _ _ => trivial) ⟨⟨hS88.hasK (KLe.refl _), hS88.hasObj (.head _)⟩, (fun _ => trivial), by decide⟩ wn rfl (fun _ _ => (rv_move rfl)) ?_
   obtain ⟨x89, hx90, h91⟩ := ob h86
   refine wg_indexAddr (t := tStr) (j := 4) (listed' := #[true, true, true, true, true, false, false, false]) rfl (by kernel_rfl) (pk_then (pk_block (pk_then (pk_then (pk_block (pk_then (pk_then pk_body))))))) (by kernel_rfl) rfl (by kernel_rfl) (by kernel_rfl) rfl ⟨⟨hS88.hasK (KLe.refl _), hS88.hasObj (.head _)⟩, (fun _ => trivial), by decide⟩ wn rfl Tryz.underlying23 tf9 rfl rfl (SliceAt.mono hl61 hs36) hx90 ?_
   intro b92 o93 u94 hu95 ha96
   obtain ⟨rfl, hl97⟩ := hu95
   have ha98 : AtK _ b92 o93 [sv x89] := ha96
   refine wg_val (i := 5) (listed' := #[true, true, true, true, true, true, false, false]) (Holds K60) rfl (by kernel_rfl) (pk_then (pk_block (pk_then (pk_then (pk_block (pk_then (pk_then pk_body))))))) (by kernel_rfl) rfl (by kernel_rfl) (by kernel_rfl) rfl (.inl fun _ h => h.1) ⟨⟨hS88.hasK (KLe.refl _), hS88.hasObj (.head _)⟩, (fun _ => trivial), by decide⟩ wn rfl (fun _ h => rh_load1 tf9 rfl (ha98 0 _ rfl) h) ?_
   refine wg_one (i := 6) (by kernel_rfl) rfl ?_
   obtain ⟨r99, hx100, h101⟩ := ob h91
   refine wl_call wn rfl (rt_call (vs := [.agg #[.slice a1 n2 c3, .slice a5 n6 c7], .slice a9 n10 c11, sv x89]) co115 rfl) ((ok_spec_l7Terms F) hS88.enter0 (SliceAt.mono (hS32.le.trans hl61) hs4) (SliceAt.mono (hS32.le.trans hl61) hs8) (SliceAt.mono (hS32.le.trans hl61) hs12) hl97 hx100) ?_
   rintro e109 w103 ⟨a105, n106, c107, K102, rfl, hS104, hs108⟩
   refine ⟨_, rfl, ?_⟩
   have hS110 : SH _ _ _ _ _ [_, _, _, _, _, _] := SH.call0 hS88 hS104
   refine wl_nil (qe_held (listed' := #[true, true, true, true, true, true, true, false]) rfl ⟨⟨hS110.hasK hS104.le, hS110.hasObj (.tail _ (.head _))⟩, (fun _ => trivial), by decide⟩ ?_)
   refine wg_val (i := 7) (listed' := #[true, true, true, true, true, true, true, true]) (fun _ => True) rfl (by kernel_rfl) (pk_then (pk_block (pk_then (pk_then (pk_block (pk_then (pk_then pk_body))))))) (by kernel_rfl) rfl (by kernel_rfl) (by kernel_rfl) rfl (.inl fun _ _ => trivial) ⟨⟨hS110.hasK hS104.le, hS110.hasObj (.tail _ (.head _))⟩, (fun _ => trivial), by decide⟩ wn rfl (fun _ _ => (rv_assign rfl)) ?_
   refine wg_done (by kernel_rfl) ?_
   refine qr ?_
   refine wl_val wn rfl (rv_assign (v := .int .i64 0) rfl) ?_
   refine nq ?_
   obtain ⟨o111, h112, h113⟩ := ob h101
   refine wc_cutg (fun E' w' => ∃ (a118 : Option Addr) (n119 c120 : Nat) (a122 : Option Addr) (n123 c124 : Nat) (cs125 : List Value) (K114 : KMap), E' = [(1, .slice a9 n10 c11), (2, .pointer (some ⟨g13, 0, none⟩)), (4, .pointer (some ⟨g17, 0, none⟩)), (5, .pointer (some ⟨g21, 0, none⟩)), (6, .slice a33 n34 c35), (7, .int .i64 s56.1)] ∧ SH w K [] w' K114 [obj g13 [.slice a1 n2 c3, .slice a5 n6 c7] 26, obj g17 [.slice none 0 0, .slice none 0 0] 30, obj g21 [.slice a118 n119 c120, .slice a122 n123 c124] 30, rowI (.slice a122 n123 c124) cs125 94 3, tail (.slice a118 n119 c120) 44 3] ∧ KLe K102 K114 ∧ SliceAt tGDoc K114 a118 n119 c120 o111.Docs ∧ RowAt true tGEntry K114 cs125 o111.Entries ∧ n123 = o111.Entries.length) ?_ ?_
   ·refine wc_block ?_
    obtain ⟨r129, h130, h131⟩ := ob h112
    have hS147 : SH _ _ _ _ _ [_, _, _, _, _] := SH.sublist hS110 (.cons _ (.cons_cons _ (.cons_cons _ (.cons_cons _ (.cons_cons _ (.cons_cons _ .slnil))))))
    refine wc_while' (fun (s128 : Int × GSeg) E' w' => ∃ (a137 : Option Addr) (n138 c139 : Nat) (a141 : Option Addr) (n142 c143 : Nat) (cs144 : List Value) (K132 : KMap), E' = [(1, .slice a9 n10 c11), (2, .pointer (some ⟨g13, 0, none⟩)), (4, .pointer (some ⟨g17, 0, none⟩)), (5, .pointer (some ⟨g21, 0, none⟩)), (6, .slice a33 n34 c35), (7, .int .i64 s56.1), (8, .slice a105 n106 c107), (9, .int .i64 s128.1)] ∧ SH w K [] w' K132 [obj g13 [.slice a1 n2 c3, .slice a5 n6 c7] 26, obj g17 [.slice none 0 0, .slice none 0 0] 30, obj g21 [.slice a137 n138 c139, .slice a141 n142 c143] 30, rowI (.slice a141 n142 c143) cs144 94 3, tail (.slice a137 n138 c139) 44 3] ∧ KLe K102 K132 ∧ rng64 s128.1 ∧ SliceAt tGDoc K132 a137 n138 c139 s128.2.Docs ∧ RowAt true tGEntry K132 cs144 s128.2.Entries ∧ n142 = s128.2.Entries.length) h130 ⟨a65, n66, c67, a69, n70, c71, cs72, K102, rfl, hS147, (KLe.refl _), (by decide : rng64 0), (SliceAt.mono hS104.le hs68), (RowAt.mono hS104.le hrow73), hm74⟩ ⟨rfl, rfl, rfl, rfl, rfl, rfl, rfl, rfl, trivial⟩ ?_
    rintro s128 _ w134 r148 h149 hx150 ⟨a137, n138, c139, a141, n142, c143, cs144, K132, rfl, hS135, hl133, hr136, hs140, hrow145, hm146⟩
    refine wc_seq ?_
    refine sr ?_
    refine vm rfl rfl ?_
    refine vm rfl rfl ?_
    refine wl_val wn rfl (rv_len (t := tStr) Tryz.underlying23 rfl (SliceAt.mono hl133 hs108)) ?_
    refine wl_val wn rfl (rv_lss rfl rfl) ?_
    refine nq ?_
    refine wc_cond rfl (fun hb151 => ?_) (fun hb151 => ?_)
    ·have h152 := cond_t hb151 h149
     refine wc_skip ?_
     refine qs ?_
     refine wc_block ?_
     refine wc_held (fun w' => Holds K132 w' ∧ HasObj g13 [.slice a1 n2 c3, .slice a5 n6 c7] w') (fun w' => HasObj g21 [.slice a137 n138 c139, .slice a141 n142 c143] w') 16 [(1, 14), (1, 15), (1, 16), (14, 15), (14, 16), (15, 16)] mixed ?_
     have hS154 := SH.drew hS135
     refine wg_val (i := 0) (listed' := #[true, false, false, false, false, false, false, false, false, false, false, false, false, false, false, false, false]) (fun _ => True) rfl (by kernel_rfl) (pk_block (pk_then (pk_then (pk_block (pk_then (pk_block (pk_then (pk_then (pk_block (pk_then (pk_then pk_body))))))))))) (by kernel_rfl) rfl (by kernel_rfl) (by kernel_rfl) rfl (.inl fun _ _ => trivial) ⟨⟨hS154.hasK (KLe.refl _), hS154.hasObj (.head _)⟩, (fun _ => hS154.hasObj (.tail _ (.tail _ (.head _)))), by decide⟩ wn rfl (fun _ _ => (rv_fieldAddr ff30_1 rfl)) ?_
     refine wg_val (i := 1) (listed' := #[true, true, false, false, false, false, false, false, false, false, false, false, false, false, false, false, false]) (HasObj g21 [.slice a137 n138 c139, .slice a141 n142 c143]) rfl (by kernel_rfl) (pk_block (pk_then (pk_then (pk_block (pk_then (pk_block (pk_then (pk_then (pk_block (pk_then (pk_then pk_body))))))))))) (by kernel_rfl) rfl (by kernel_rfl) (by kernel_rfl) rfl (.inr ⟨rfl, fun _ _ h => h⟩) ⟨⟨hS154.hasK (KLe.refl _), hS154.hasObj (.head _)⟩, (fun _ => hS154.hasObj (.tail _ (.tail _ (.head _)))), by decide⟩ wn rfl (fun _ h => rh_loadm1 tf28 rfl rfl h) ?_
     refine wg_val (i := 2) (listed' := #[true, true, true, false, false, false, false, false, false, false, false, false, false, false, false, false, false]) (HasObj g13 [.slice a1 n2 c3, .slice a5 n6 c7]) rfl (by kernel_rfl) (pk_block (pk_then (pk_then (pk_block (pk_then (pk_block (pk_then (pk_then (pk_block (pk_then (pk_then pk_body))))))))))) (by kernel_rfl) rfl (by kernel_rfl) (by kernel_rfl) rfl (.inl fun _ h => h.2) ⟨⟨hS154.hasK (KLe.refl _), hS154.hasObj (.head _)⟩, (fun _ => hS154.hasObj (.tail _ (.tail _ (.head _)))), by decide⟩ wn rfl (fun _ h => rh_loadmS (ds := [.slice a1 n2 c3, .slice a5 n6 c7]) tf26 rfl rfl rfl h) ?_
     refine wg_val (i := 3) (listed' := #[true, true, true, true, false, false, false, false, false, false, false, false, false, false, false, false, false]) (fun _ => True) rfl (by kernel_rfl) (pk_block (pk_then (pk_then (pk_block (pk_then (pk_block (pk_then (pk_then (pk_block (pk_then (pk_then pk_body))))))))))) (by kernel_rfl) rfl (by kernel_rfl) (by kernel_rfl) rfl (.inl fun _ _ => trivial) ⟨⟨hS154.hasK (KLe.refl _), hS154.hasObj (.head _)⟩, (fun _ => hS154.hasObj (.tail _ (.tail _ (.head _)))), by decide⟩ wn rfl (fun _ _ => (rv_move rfl)) ?_
     refine wg_val (i := 4) (listed' := #[true, true, true, true, true, false, false, false, false, false, false, false, false, false, false, false, false]) (fun _ => True) rfl (by kernel_rfl) (pk_block (pk_then (pk_then (pk_block (pk_then (pk_block (pk_then (pk_then (pk_block (pk_then (pk_then pk_body))))))))))) (by kernel_rfl) rfl (by kernel_rfl) (by kernel_rfl) rfl (.inl fun _ _ => trivial) ⟨⟨hS154.hasK (KLe.refl _), hS154.hasObj (.head _)⟩, (fun _ => hS154.hasObj (.tail _ (.tail _ (.head _)))), by decide⟩ wn rfl (fun _ _ => (rv_move rfl)) ?_
     refine wg_val (i := 5) (listed' := #[true, true, true, true, true, true, false, false, false, false, false, false, false, false, false, false, false]) (fun _ => True) rfl (by kernel_rfl) (pk_block (pk_then (pk_then (pk_block (pk_then (pk_block (pk_then (pk_then (pk_block (pk_then (pk_then pk_body))))))))))) (by kernel_rfl) rfl (by kernel_rfl) (by kernel_rfl) rfl (.inl fun _ _ => trivial) ⟨⟨hS154.hasK (KLe.refl _), hS154.hasObj (.head _)⟩, (fun _ => hS154.hasObj (.tail _ (.tail _ (.head _)))), by decide⟩ wn rfl (fun _ _ => (rv_move rfl)) ?_
     obtain ⟨x155, hx156, h157⟩ := ob h152
     refine wg_indexAddr (t := tStr) (j := 6) (listed' := #[true, true, true, true, true, true, true, false, false, false, false, false, false, false, false, false, false]) rfl (by kernel_rfl) (pk_block (pk_then (pk_then (pk_block (pk_then (pk_block (pk_then (pk_then (pk_block (pk_then (pk_then pk_body))))))))))) (by kernel_rfl) rfl (by kernel_rfl) (by kernel_rfl) rfl ⟨⟨hS154.hasK (KLe.refl _), hS154.hasObj (.head _)⟩, (fun _ => hS154.hasObj (.tail _ (.tail _ (.head _)))), by decide⟩ wn rfl Tryz.underlying23 tf9 rfl rfl (SliceAt.mono ((hl61.trans hS104.le).trans hl133) hs36) hx156 ?_
     intro b158 o159 u160 hu161 ha162
     obtain ⟨rfl, hl163⟩ := hu161
     have ha164 : AtK _ b158 o159 [sv x155] := ha162
     refine wg_val (i := 7) (listed' := #[true, true, true, true, true, true, true, true, false, false, false, false, false, false, false, false, false]) (Holds K132) rfl (by kernel_rfl) (pk_block (pk_then (pk_then (pk_block (pk_then (pk_block (pk_then (pk_then (pk_block (pk_then (pk_then pk_body))))))))))) (by kernel_rfl) rfl (by kernel_rfl) (by kernel_rfl) rfl (.inl fun _ h => h.1) ⟨⟨hS154.hasK (KLe.refl _), hS154.hasObj (.head _)⟩, (fun _ => hS154.hasObj (.tail _ (.tail _ (.head _)))), by decide⟩ wn rfl (fun _ h => rh_load1 tf9 rfl (ha164 0 _ rfl) h) ?_
     refine wg_val (i := 8) (listed' := #[true, true, true, true, true, true, true, true, true, false, false, false, false, false, false, false, false]) (fun _ => True) rfl (by kernel_rfl) (pk_block (pk_then (pk_then (pk_block (pk_then (pk_block (pk_then (pk_then (pk_block (pk_then (pk_then pk_body))))))))))) (by kernel_rfl) rfl (by kernel_rfl) (by kernel_rfl) rfl (.inl fun _ _ => trivial) ⟨⟨hS154.hasK (KLe.refl _), hS154.hasObj (.head _)⟩, (fun _ => hS154.hasObj (.tail _ (.tail _ (.head _)))), by decide⟩ wn rfl (fun _ _ => (rv_move rfl)) ?_
     refine wg_val (i := 9) (listed' := #[true, true, true, true, true, true, true, true, true, true, false, false, false, false, false, false, false]) (fun _ => True) rfl (by kernel_rfl) (pk_block (pk_then (pk_then (pk_block (pk_then (pk_block (pk_then (pk_then (pk_block (pk_then (pk_then pk_body))))))))))) (by kernel_rfl) rfl (by kernel_rfl) (by kernel_rfl) rfl (.inl fun _ _ => trivial) ⟨⟨hS154.hasK (KLe.refl _), hS154.hasObj (.head _)⟩, (fun _ => hS154.hasObj (.tail _ (.tail _ (.head _)))), by decide⟩ wn rfl (fun _ _ => (rv_move rfl)) ?_
     obtain ⟨x165, hx166, h167⟩ := ob h157
     refine wg_indexAddr (t := tStr) (j := 10) (listed' := #[true, true, true, true, true, true, true, true, true, true, true, false, false, false, false, false, false]) rfl (by kernel_rfl) (pk_block (pk_then (pk_then (pk_block (pk_then (pk_block (pk_then (pk_then (pk_block (pk_then (pk_then pk_body))))))))))) (by kernel_rfl) rfl (by kernel_rfl) (by kernel_rfl) rfl ⟨⟨hS154.hasK (KLe.refl _), hS154.hasObj (.head _)⟩, (fun _ => hS154.hasObj (.tail _ (.tail _ (.head _)))), by decide⟩ wn rfl Tryz.underlying23 tf9 rfl rfl (SliceAt.mono hl133 hs108) hx166 ?_
     intro b168 o169 u170 hu171 ha172
     obtain ⟨rfl, hl173⟩ := hu171
     have ha174 : AtK _ b168 o169 [sv x165] := ha172
     refine wg_val (i := 11) (listed' := #[true, true, true, true, true, true, true, true, true, true, true, true, false, false, false, false, false]) (Holds K132) rfl (by kernel_rfl) (pk_block (pk_then (pk_then (pk_block (pk_then (pk_block (pk_then (pk_then (pk_block (pk_then (pk_then pk_body))))))))))) (by kernel_rfl) rfl (by kernel_rfl) (by kernel_rfl) rfl (.inl fun _ h => h.1) ⟨⟨hS154.hasK (KLe.refl _), hS154.hasObj (.head _)⟩, (fun _ => hS154.hasObj (.tail _ (.tail _ (.head _)))), by decide⟩ wn rfl (fun _ h => rh_load1 tf9 rfl (ha174 0 _ rfl) h) ?_
     refine wg_one (i := 12) (by kernel_rfl) rfl ?_
     obtain ⟨r175, hx176, h177⟩ := ob h167
     refine wl_call wn rfl (rt_call (vs := [.agg #[.slice a1 n2 c3, .slice a5 n6 c7], .slice a9 n10 c11, sv x155, sv x165]) co116 rfl) ((ok_spec_l7Entry F) hS154.enter0 (SliceAt.mono (((hS32.le.trans hl61).trans hS104.le).trans hl133) hs4) (SliceAt.mono (((hS32.le.trans hl61).trans hS104.le).trans hl133) hs8) (SliceAt.mono (((hS32.le.trans hl61).trans hS104.le).trans hl133) hs12) hl163 hl173 hx176) ?_
     rintro e187 w179 ⟨a183, n184, c185, K178, rfl, hS180, hl181, hl182, hs186⟩
     refine ⟨_, rfl, ?_⟩
     have hS188 : SH _ _ _ _ _ [_, _, _, _, _, _] := SH.call0 hS154 hS180
     refine wl_nil (qe_held (listed' := #[true, true, true, true, true, true, true, true, true, true, true, true, true, false, false, false, false]) rfl ⟨⟨hS188.hasK hS180.le, hS188.hasObj (.tail _ (.head _))⟩, (fun _ => hS188.hasObj (.tail _ (.tail _ (.tail _ (.head _))))), by decide⟩ ?_)
     refine wg_one (i := 13) (by kernel_rfl) rfl ?_
     refine wl_buildSlice (t := tGEntry) (n := 1) (pv := [(0, .agg #[sv r175.Field, sv r175.Term, .slice a183 n184 c185])]) (cs := [sv r175.Field, sv r175.Term, .slice a183 n184 c185]) (xs := [r175]) wn rfl Tryz.underlying28 tf94 rfl rfl rfl (by kernel_rfl) rfl rfl (lit_cons (u := .agg #[sv r175.Field, sv r175.Term, .slice a183 n184 c185]) (z := r175) ⟨a183, n184, c185, rfl, hl181, hl182, hs186⟩ lit_nil) hS188 ?_
     intro a189 w190 K191 hl192 hs193 hS194
     refine wl_nil (qe_held (listed' := #[true, true, true, true, true, true, true, true, true, true, true, true, true, true, false, false, false]) rfl ⟨⟨hS194.hasK (hS180.le.trans hl192), hS194.hasObj (.tail _ (.tail _ (.head _)))⟩, (fun _ => hS194.hasObj (.tail _ (.tail _ (.tail _ (.tail _ (.head _)))))), by decide⟩ ?_)
     refine wg_one (i := 14) (by kernel_rfl) rfl ?_
     have hS195 : SH _ _ _ _ _ [_, _, _, _, _, _, _] := SH.front (p := [_, _, _, _, _]) hS194
     obtain ⟨x196, hx197, h198⟩ := ob h177
     refine wl_appendR (t := tGEntry) wn rfl Tryz.underlying28 tf94 rfl rfl rfl rfl (RowAt.mono (hS180.le.trans hl192) hrow145) hm146 hs193 hx197 hS195 ?_
     intro a199 n200 c201 cs202 w203 hrow204 hm205 hS206
     refine wl_nil (qe_held (listed' := #[true, true, true, true, true, true, true, true, true, true, true, true, true, true, true, false, false]) rfl ⟨⟨hS206.hasK (hS180.le.trans hl192), hS206.hasObj (.tail _ (.tail _ (.tail _ (.head _))))⟩, (fun _ => hS206.hasObj (.tail _ (.tail _ (.tail _ (.tail _ (.tail _ (.head _))))))), by decide⟩ ?_)
     refine wg_val (i := 15) (listed' := #[true, true, true, true, true, true, true, true, true, true, true, true, true, true, true, true, false]) (fun _ => True) rfl (by kernel_rfl) (pk_block (pk_then (pk_then (pk_block (pk_then (pk_block (pk_then (pk_then (pk_block (pk_then (pk_then pk_body))))))))))) (by kernel_rfl) rfl (by kernel_rfl) (by kernel_rfl) rfl (.inl fun _ _ => trivial) ⟨⟨hS206.hasK (hS180.le.trans hl192), hS206.hasObj (.tail _ (.tail _ (.tail _ (.head _))))⟩, (fun _ => hS206.hasObj (.tail _ (.tail _ (.tail _ (.tail _ (.tail _ (.head _))))))), by decide⟩ wn rfl (fun _ _ => (rv_fieldAddr ff30_1 rfl)) ?_
     refine wg_one (i := 16) (by kernel_rfl) rfl ?_
     have hS207 : SH _ _ _ _ _ [_, _, _, _, _, _, _] := SH.front (p := [_, _, _, _, _]) hS206
     refine wl_store (cs' := [.slice a137 n138 c139, .slice a199 n200 c201]) (v := .slice a199 n200 c201) wn tf28 rfl rfl rfl (by simp [Value.cells, Value.oneCell']) hS207 rfl rfl ?_
     intro w208 hS209
     refine wl_nil (qe_held (listed' := #[true, true, true, true, true, true, true, true, true, true, true, true, true, true, true, true, true]) rfl ⟨⟨hS209.hasK (hS180.le.trans hl192), hS209.hasObj (.tail _ (.tail _ (.tail _ (.tail _ (.head _)))))⟩, (fun h => nomatch h), by decide⟩ ?_)
     refine wg_done (by kernel_rfl) ?_
     refine qe_block ?_
     refine qe_seq ?_
     refine wc_region ?_
     refine vm rfl rfl ?_
     refine wl_val wn rfl (rv_add rfl rfl) ?_
     refine va rfl rfl ?_
     refine wl_nil ?_
     obtain rfl := oi h198
     have hS210 : SH _ _ _ _ _ [_, _, _, _, _, _, _] := SH.front (p := [_, _, _, _, _, _]) hS209
     have hS211 : SH _ _ _ _ _ [_, _, _, _, _, _, _] := SH.front (p := [_, _]) hS210
     have hS212 : SH _ _ _ _ _ [_, _, _, _, _, _, _] := SH.front (p := [_, _]) hS211
     have hS213 : SH _ _ _ _ _ [_, _, _, _, _, _, _] := SH.front (p := [_, _, _, _, _, _]) hS212
     have hS214 : SH _ _ _ _ _ [_, _, _, _, _, _, _] := SH.front (p := [_, _, _, _, _, _]) hS213
     have hS215 : SH _ _ _ _ _ [_, _, _, _, _] := SH.sublist hS214 (.cons_cons _ (.cons_cons _ (.cons_cons _ (.cons_cons _ (.cons_cons _ (.cons _ (.cons _ .slnil)))))))
     exact qe_mid' ⟨_, rfl, a137, n138, c139, a199, n200, c201, cs202, K191, rfl, hS215, ((hl133.trans hS180.le).trans hl192), (w64_rng _), (SliceAt.mono (hS180.le.trans hl192) hs140), hrow204, hm205⟩ ⟨rfl, rfl, rfl, rfl, rfl, rfl, rfl, rfl, trivial⟩
    ·have h152 := cond_f hb151 h149
     refine wc_exit ?_
     refine qe_then_exit ?_
     refine qe_then_exit ?_
     obtain rfl := oi h152
     have e216 := hx150 _ rfl
     subst e216
     refine qe_block_eq ?_
     obtain rfl := oi h131
     exact qe_mid' ⟨a137, n138, c139, a141, n142, c143, cs144, K132, rfl, hS135, hl133, hs140, hrow145, hm146⟩ ⟨rfl, rfl, rfl, rfl, rfl, rfl, trivial⟩
   ·rintro _ w116 ⟨a118, n119, c120, a122, n123, c124, cs125, K114, rfl, hS117, hl115, hs121, hrow126, hm127⟩
    refine qe_block ?_
    refine qe_seq ?_
    refine wc_region ?_
    refine vm rfl rfl ?_
    refine wl_val wn rfl (rv_add rfl rfl) ?_
    refine va rfl rfl ?_
    refine wl_nil ?_
    obtain rfl := oi h113
    exact qe_mid' ⟨_, rfl, a118, n119, c120, a122, n123, c124, cs125, K114, rfl, hS117, ((hl61.trans hS104.le).trans hl115), (w64_rng _), hs121, hrow126, hm127⟩ ⟨rfl, rfl, rfl, rfl, rfl, rfl, trivial⟩
  ·have h86 := cond_f hb85 h83
   refine wc_exit ?_
   refine qe_then_exit ?_
   refine qe_then_exit ?_
   obtain rfl := oi h86
   have e217 := hx84 _ rfl
   subst e217
   refine qe_block_eq ?_
   obtain rfl := oi h59
   have hS218 : SH _ _ _ _ _ [_, _, _, _] := SH.sublist hS63 (.cons _ (.cons_cons _ (.cons_cons _ (.cons_cons _ (.cons_cons _ .slnil)))))
   exact qe_mid' ⟨a65, n66, c67, a69, n70, c71, cs72, K60, rfl, hS218, hl61, hs68, hrow73, hm74⟩ ⟨rfl, rfl, rfl, trivial⟩
 ·rintro _ w44 ⟨a46, n47, c48, a50, n51, c52, cs53, K42, rfl, hS45, hl43, hs49, hrow54, hm55⟩
  refine qs ?_
  refine sr ?_
  refine wl_val wn rfl (rv_assign (v := .int .i64 0) rfl) ?_
  refine nq ?_
  obtain ⟨o219, h220, h221⟩ := ob h41
  refine wc_cutg (fun E' w' => ∃ (a226 : Option Addr) (n227 c228 : Nat) (a230 : Option Addr) (n231 c232 : Nat) (cs233 : List Value) (K222 : KMap), E' = [(4, .pointer (some ⟨g17, 0, none⟩)), (5, .pointer (some ⟨g21, 0, none⟩))] ∧ SH w K [] w' K222 [obj g17 [.slice none 0 0, .slice none 0 0] 30, obj g21 [.slice a226 n227 c228, .slice a230 n231 c232] 30, rowI (.slice a230 n231 c232) cs233 94 3, tail (.slice a226 n227 c228) 44 3] ∧ KLe K42 K222 ∧ SliceAt tGDoc K222 a226 n227 c228 o219.Docs ∧ RowAt true tGEntry K222 cs233 o219.Entries ∧ n231 = o219.Entries.length) ?_ ?_
  ·refine wc_block ?_
   obtain ⟨r237, h238, h239⟩ := ob h220
   refine wc_while' (fun (s236 : Int × GSeg) E' w' => ∃ (a245 : Option Addr) (n246 c247 : Nat) (a249 : Option Addr) (n250 c251 : Nat) (cs252 : List Value) (K240 : KMap), E' = [(1, .slice a9 n10 c11), (4, .pointer (some ⟨g17, 0, none⟩)), (5, .pointer (some ⟨g21, 0, none⟩)), (10, .int .i64 s236.1)] ∧ SH w K [] w' K240 [obj g17 [.slice none 0 0, .slice none 0 0] 30, obj g21 [.slice a245 n246 c247, .slice a249 n250 c251] 30, rowI (.slice a249 n250 c251) cs252 94 3, tail (.slice a245 n246 c247) 44 3] ∧ KLe K42 K240 ∧ rng64 s236.1 ∧ SliceAt tGDoc K240 a245 n246 c247 s236.2.Docs ∧ RowAt true tGEntry K240 cs252 s236.2.Entries ∧ n250 = s236.2.Entries.length) h238 ⟨a46, n47, c48, a50, n51, c52, cs53, K42, rfl, hS45, (KLe.refl _), (by decide : rng64 0), hs49, hrow54, hm55⟩ ⟨rfl, rfl, rfl, rfl, trivial⟩ ?_
   rintro s236 _ w242 r255 h256 hx257 ⟨a245, n246, c247, a249, n250, c251, cs252, K240, rfl, hS243, hl241, hr244, hs248, hrow253, hm254⟩
   refine wc_seq ?_
   refine sr ?_
   refine vm rfl rfl ?_
   refine vm rfl rfl ?_
   refine wl_val wn rfl (rv_len (t := tGDoc) Tryz.underlying27 rfl (SliceAt.mono ((hS32.le.trans hl43).trans hl241) hs12)) ?_
   refine wl_val wn rfl (rv_lss rfl rfl) ?_
   refine nq ?_
   refine wc_cond rfl (fun hb258 => ?_) (fun hb258 => ?_)
   ·have h259 := cond_t hb258 h256
    refine wc_skip ?_
    refine qs ?_
    refine wc_block ?_
    refine wc_held (fun w' => Holds K240 w') (fun w' => HasObj g21 [.slice a245 n246 c247, .slice a249 n250 c251] w') 10 [(1, 8), (1, 9), (1, 10), (8, 9), (8, 10), (9, 10)] mixed ?_
    have hS261 := SH.drew hS243
    refine wg_val (i := 0) (listed' := #[true, false, false, false, false, false, false, false, false, false, false]) (fun _ => True) rfl (by kernel_rfl) (pk_block (pk_then (pk_then (pk_block (pk_then (pk_then pk_body)))))) (by kernel_rfl) rfl (by kernel_rfl) (by kernel_rfl) rfl (.inl fun _ _ => trivial) ⟨(hS261.hasK (KLe.refl _)), (fun _ => hS261.hasObj (.tail _ (.head _))), by decide⟩ wn rfl (fun _ _ => (rv_fieldAddr ff30_0 rfl)) ?_
    refine wg_val (i := 1) (listed' := #[true, true, false, false, false, false, false, false, false, false, false]) (HasObj g21 [.slice a245 n246 c247, .slice a249 n250 c251]) rfl (by kernel_rfl) (pk_block (pk_then (pk_then (pk_block (pk_then (pk_then pk_body)))))) (by kernel_rfl) rfl (by kernel_rfl) (by kernel_rfl) rfl (.inr ⟨rfl, fun _ _ h => h⟩) ⟨(hS261.hasK (KLe.refl _)), (fun _ => hS261.hasObj (.tail _ (.head _))), by decide⟩ wn rfl (fun _ h => rh_loadm1 tf27 rfl rfl h) ?_
    refine wg_val (i := 2) (listed' := #[true, true, true, false, false, false, false, false, false, false, false]) (fun _ => True) rfl (by kernel_rfl) (pk_block (pk_then (pk_then (pk_block (pk_then (pk_then pk_body)))))) (by kernel_rfl) rfl (by kernel_rfl) (by kernel_rfl) rfl (.inl fun _ _ => trivial) ⟨(hS261.hasK (KLe.refl _)), (fun _ => hS261.hasObj (.tail _ (.head _))), by decide⟩ wn rfl (fun _ _ => (rv_move rfl)) ?_
    refine wg_val (i := 3) (listed' := #[true, true, true, true, false, false, false, false, false, false, false]) (fun _ => True) rfl (by kernel_rfl) (pk_block (pk_then (pk_then (pk_block (pk_then (pk_then pk_body)))))) (by kernel_rfl) rfl (by kernel_rfl) (by kernel_rfl) rfl (.inl fun _ _ => trivial) ⟨(hS261.hasK (KLe.refl _)), (fun _ => hS261.hasObj (.tail _ (.head _))), by decide⟩ wn rfl (fun _ _ => (rv_move rfl)) ?_
    obtain ⟨x262, hx263, h264⟩ := ob h259
    refine wg_indexAddr (t := tGDoc) (j := 4) (listed' := #[true, true, true, true, true, false, false, false, false, false, false]) rfl (by kernel_rfl) (pk_block (pk_then (pk_then (pk_block (pk_then (pk_then pk_body)))))) (by kernel_rfl) rfl (by kernel_rfl) (by kernel_rfl) rfl ⟨(hS261.hasK (KLe.refl _)), (fun _ => hS261.hasObj (.tail _ (.head _))), by decide⟩ wn rfl Tryz.underlying27 tf44 rfl rfl (SliceAt.mono ((hS32.le.trans hl43).trans hl241) hs12) hx263 ?_
    intro b265 o266 u267 hu268 ha269
    obtain ⟨a271, n272, c273, a275, n276, c277, rfl, hr270, hs274, hs278⟩ := hu268
    have ha279 : AtK _ b265 o266 [.int .i64 x262.Id, .slice a271 n272 c273, .slice a275 n276 c277] := ha269
    refine wg_val (i := 5) (listed' := #[true, true, true, true, true, true, false, false, false, false, false]) (Holds K240) rfl (by kernel_rfl) (pk_block (pk_then (pk_then (pk_block (pk_then (pk_then pk_body)))))) (by kernel_rfl) rfl (by kernel_rfl) (by kernel_rfl) rfl (.inl fun _ h => h) ⟨(hS261.hasK (KLe.refl _)), (fun _ => hS261.hasObj (.tail _ (.head _))), by decide⟩ wn rfl (fun _ h => rh_loadS (cs := [.int .i64 x262.Id, .slice a271 n272 c273, .slice a275 n276 c277]) tf44 rfl ha279 rfl h) ?_
    refine wg_one (i := 6) (by kernel_rfl) rfl ?_
    obtain ⟨r280, hx281, h282⟩ := ob h264
    refine wl_call wn rfl (rt_call (vs := [.agg #[.int .i64 x262.Id, .slice a271 n272 c273, .slice a275 n276 c277]]) co117 rfl) ((ok_spec_l7CopyDoc F) hS261.enter0 hr270 hs274 hs278 hx281) ?_
    rintro e295 w284 ⟨a287, n288, c289, a291, n292, c293, K283, rfl, hS285, hr286, hs290, hs294⟩
    refine ⟨_, rfl, ?_⟩
    have hS296 : SH _ _ _ _ _ [_, _, _, _, _, _] := SH.call0 hS261 hS285
    refine wl_nil (qe_held (listed' := #[true, true, true, true, true, true, true, false, false, false, false]) rfl ⟨(hS296.hasK hS285.le), (fun _ => hS296.hasObj (.tail _ (.tail _ (.tail _ (.head _))))), by decide⟩ ?_)
    refine wg_one (i := 7) (by kernel_rfl) rfl ?_
    refine wl_buildSlice (t := tGDoc) (n := 1) (pv := [(0, .agg #[.int .i64 r280.Id, .slice a287 n288 c289, .slice a291 n292 c293])]) (cs := [.int .i64 r280.Id, .slice a287 n288 c289, .slice a291 n292 c293]) (xs := [r280]) wn rfl Tryz.underlying27 tf44 rfl rfl rfl (by kernel_rfl) rfl rfl (lit_cons (u := .agg #[.int .i64 r280.Id, .slice a287 n288 c289, .slice a291 n292 c293]) (z := r280) ⟨a287, n288, c289, a291, n292, c293, rfl, hr286, hs290, hs294⟩ lit_nil) hS296 ?_
    intro a297 w298 K299 hl300 hs301 hS302
    refine wl_nil (qe_held (listed' := #[true, true, true, true, true, true, true, true, false, false, false]) rfl ⟨(hS302.hasK (hS285.le.trans hl300)), (fun _ => hS302.hasObj (.tail _ (.tail _ (.tail _ (.tail _ (.head _)))))), by decide⟩ ?_)
    refine wg_one (i := 8) (by kernel_rfl) rfl ?_
    have hS303 : SH _ _ _ _ _ [_, _, _, _, _, _, _] := SH.front (p := [_, _, _, _, _, _]) hS302
    obtain ⟨x304, hx305, h306⟩ := ob h282
    refine wl_append (t := tGDoc) wn rfl Tryz.underlying27 tf44 rfl rfl rfl rfl rfl (SliceAt.mono (hS285.le.trans hl300) hs248) hs301 hx305 hS303 ?_
    intro a307 n308 c309 w310 K311 hl312 hs313 hS314
    refine wl_nil (qe_held (listed' := #[true, true, true, true, true, true, true, true, true, false, false]) rfl ⟨(hS314.hasK ((hS285.le.trans hl300).trans hl312)), (fun _ => hS314.hasObj (.tail _ (.tail _ (.tail _ (.tail _ (.tail _ (.head _))))))), by decide⟩ ?_)
    refine wg_val (i := 9) (listed' := #[true, true, true, true, true, true, true, true, true, true, false]) (fun _ => True) rfl (by kernel_rfl) (pk_block (pk_then (pk_then (pk_block (pk_then (pk_then pk_body)))))) (by kernel_rfl) rfl (by kernel_rfl) (by kernel_rfl) rfl (.inl fun _ _ => trivial) ⟨(hS314.hasK ((hS285.le.trans hl300).trans hl312)), (fun _ => hS314.hasObj (.tail _ (.tail _ (.tail _ (.tail _ (.tail _ (.head _))))))), by decide⟩ wn rfl (fun _ _ => (rv_fieldAddr ff30_0 rfl)) ?_
    refine wg_one (i := 10) (by kernel_rfl) rfl ?_
    have hS315 : SH _ _ _ _ _ [_, _, _, _, _, _, _] := SH.front (p := [_, _, _, _, _]) hS314
    refine wl_store (cs' := [.slice a307 n308 c309, .slice a249 n250 c251]) (v := .slice a307 n308 c309) wn tf27 rfl rfl rfl (by simp [Value.cells, Value.oneCell']) hS315 rfl rfl ?_
    intro w316 hS317
    refine wl_nil (qe_held (listed' := #[true, true, true, true, true, true, true, true, true, true, true]) rfl ⟨(hS317.hasK ((hS285.le.trans hl300).trans hl312)), (fun h => nomatch h), by decide⟩ ?_)
    refine wg_done (by kernel_rfl) ?_
    refine qe_block ?_
    refine qe_seq ?_
    refine wc_region ?_
    refine vm rfl rfl ?_
    refine wl_val wn rfl (rv_add rfl rfl) ?_
    refine va rfl rfl ?_
    refine wl_nil ?_
    obtain rfl := oi h306
    have hS318 : SH _ _ _ _ _ [_, _, _, _, _, _, _] := SH.front (p := [_]) hS317
    have hS319 : SH _ _ _ _ _ [_, _, _, _, _, _, _] := SH.front (p := [_, _, _, _, _, _]) hS318
    have hS320 : SH _ _ _ _ _ [_, _, _, _, _, _, _] := SH.front (p := [_, _]) hS319
    have hS321 : SH _ _ _ _ _ [_, _, _, _, _, _, _] := SH.front (p := [_, _, _, _, _, _]) hS320
    have hS322 : SH _ _ _ _ _ [_, _, _, _] := SH.sublist hS321 (.cons_cons _ (.cons_cons _ (.cons_cons _ (.cons_cons _ (.cons _ (.cons _ (.cons _ .slnil)))))))
    exact qe_mid' ⟨_, rfl, a307, n308, c309, a249, n250, c251, cs252, K311, rfl, hS322, (((hl241.trans hS285.le).trans hl300).trans hl312), (w64_rng _), hs313, (RowAt.mono ((hS285.le.trans hl300).trans hl312) hrow253), hm254⟩ ⟨rfl, rfl, rfl, rfl, trivial⟩
   ·have h259 := cond_f hb258 h256
    refine wc_exit ?_
    refine qe_then_exit ?_
    refine qe_then_exit ?_
    obtain rfl := oi h259
    have e323 := hx257 _ rfl
    subst e323
    refine qe_block_eq ?_
    obtain rfl := oi h239
    exact qe_mid' ⟨a245, n246, c247, a249, n250, c251, cs252, K240, rfl, hS243, hl241, hs248, hrow253, hm254⟩ ⟨rfl, rfl, trivial⟩
  ·rintro _ w224 ⟨a226, n227, c228, a230, n231, c232, cs233, K222, rfl, hS225, hl223, hs229, hrow234, hm235⟩
   refine qr ?_
   refine wl_val wn rfl (rv_loadmS (ds := [.slice a226 n227 c228, .slice a230 n231 c232]) tf30 rfl (.tail _ (.head _)) hS225 rfl rfl) ?_
   refine wl_store (cs' := [.slice a226 n227 c228, .slice a230 n231 c232]) (v := .agg #[.slice a226 n227 c228, .slice a230 n231 c232]) wn tf30 rfl rfl rfl (by simp [Value.cells, Value.oneCell']) hS225 rfl rfl ?_
   intro w324 hS325
   refine nq ?_
   refine wc_ret ?_
   obtain rfl := oi h221
   have hS326 : SH _ _ _ _ _ [_, _, _, _] := SH.front (p := [_, _]) hS325
   have hS327 : SH _ _ _ _ _ [_, _, _, _] := SH.front (p := [_, _, _]) hS326
   have hS328 : SH _ _ _ _ _ [_, _] := SH.sublist hS327 (.cons_cons _ (.cons_cons _ (.cons _ (.cons _ .slnil))))
   exact qe_ret (vs := [_]) Tryz.results66 ⟨⟨_, _, rfl, run_loadVar_at tf30 (cs := [.slice a226 n227 c228, .slice a230 n231 c232]) (fun j c e => by rw [Nat.zero_add, hS325.mem_obj (.head _)]; exact e) (.inl ⟨rfl, rfl, rfl⟩)⟩, trivial⟩ ⟨a226, n227, c228, a230, n231, c232, cs233, K222, rfl, hS328, hs229, hrow234, hm235⟩

theorem ok_spec_l7SameInts (F : Nat) {w : World} {K : KMap} {a1 : Option Addr} {n2 c3 : Nat} {a5 : Option Addr} {n6 c7 : Nat} {p0_a : List Int} {p1_b : List Int} {r : Bool} (hS : SH w K [] w K []) (hs4 : SliceAt tInt K a1 n2 c3 p0_a) (hs8 : SliceAt tInt K a5 n6 c7 p1_b) (hm : M.spec_l7SameInts F p0_a p1_b = some r) :
  Calls Tryz.prog 139 #[.slice a1 n2 c3, .slice a5 n6 c7] w fun e w' => ∃ (K' : KMap), e = .returned (.bool r) ∧ SH w K [] w' K' [] := by
 rw [M.spec_l7SameInts] at hm
 refine calls_in Tryz.func139 rfl Tryz.ntmps139 rfl ?_
 refine sr ?_
 refine wl_val wn rfl (rv_assign (v := .bool false) rfl) ?_
 refine nsr ?_
 refine vm rfl rfl ?_
 refine wl_val wn rfl (rv_len (t := tInt) Tryz.underlying37 rfl hs4) ?_
 refine vm rfl rfl ?_
 refine wl_val wn rfl (rv_len (t := tInt) Tryz.underlying37 rfl hs8) ?_
 refine wl_val wn rfl (rv_neq rfl rfl) ?_
 refine nq ?_
 refine wc_cond rfl (fun hb9 => ?_) (fun hb9 => ?_)
 ·have h10 := cond_t hb9 hm
  refine sr ?_
  refine wl_val wn rfl (rv_assign (v := .bool false) rfl) ?_
  refine nq ?_
  refine rr ?_
  obtain rfl := oi h10
  exact qe_ret (vs := [_]) Tryz.results139 ⟨rfl, trivial⟩ ⟨K, rfl, hS⟩
 ·have h10 := cond_f hb9 hm
  refine wc_skip ?_
  refine qs ?_
  refine sr ?_
  refine wl_val wn rfl (rv_assign (v := .int .i64 0) rfl) ?_
  refine nq ?_
  obtain ⟨o11, h12, h13⟩ := ob h10
  refine wc_cutg (fun E' w' => ∃ (s14 : Unit) (K15 : KMap), o11 = .inl s14 ∧ E' = [] ∧ SH w K [] w' K15 [] ∧ KLe K K15) ?_ ?_
  ·refine wc_block ?_
   obtain ⟨r20, h21, h22⟩ := ob h12
   refine wc_while' (fun (s19 : Int) E' w' => ∃ (K23 : KMap), E' = [(0, .slice a1 n2 c3), (1, .slice a5 n6 c7), (5, .int .i64 s19)] ∧ SH w K [] w' K23 [] ∧ KLe K K23 ∧ rng64 s19) h21 ⟨K, rfl, hS, (KLe.refl _), (by decide : rng64 0)⟩ ⟨rfl, rfl, rfl, trivial⟩ ?_
   rintro s19 _ w25 r28 h29 hx30 ⟨K23, rfl, hS26, hl24, hr27⟩
   refine wc_seq ?_
   refine sr ?_
   refine vm rfl rfl ?_
   refine vm rfl rfl ?_
   refine wl_val wn rfl (rv_len (t := tInt) Tryz.underlying37 rfl (SliceAt.mono hl24 hs4)) ?_
   refine wl_val wn rfl (rv_lss rfl rfl) ?_
   refine nq ?_
   refine wc_cond rfl (fun hb31 => ?_) (fun hb31 => ?_)
   ·have h32 := cond_t hb31 h29
    refine wc_skip ?_
    refine qs ?_
    refine wc_block ?_
    refine wc_seq ?_
    refine wc_quiet mixed (by kernel_rfl) hS26 ?_
    refine qm rfl rfl ?_
    refine qm rfl rfl ?_
    obtain ⟨x33, hx34, h35⟩ := ob h32
    refine wq_indexAddr (t := tInt) wn rfl Tryz.underlying37 tf3 rfl rfl (SliceAt.mono hl24 hs4) hx34 ?_
    intro b36 o37 u38 hu39 ha40
    obtain ⟨rfl, hr41⟩ := hu39
    have ha42 : AtK _ b36 o37 [.int .i64 x33] := ha40
    refine wq_val wn rfl (rq_load1 tf3 rfl (ha42 0 _ rfl)) ?_
    refine qm rfl rfl ?_
    refine qm rfl rfl ?_
    obtain ⟨x43, hx44, h45⟩ := ob h35
    refine wq_indexAddr (t := tInt) wn rfl Tryz.underlying37 tf3 rfl rfl (SliceAt.mono hl24 hs8) hx44 ?_
    intro b46 o47 u48 hu49 ha50
    obtain ⟨rfl, hr51⟩ := hu49
    have ha52 : AtK _ b46 o47 [.int .i64 x43] := ha50
    refine wq_val wn rfl (rq_load1 tf3 rfl (ha52 0 _ rfl)) ?_
    refine wq_val wn rfl (fun _ _ => (rv_neq rfl rfl)) ?_
    refine wq_nil ?_
    rintro w54 ⟨K53, hS55, hl56⟩
    refine qe_seq ?_
    refine wc_cond rfl (fun hb57 => ?_) (fun hb57 => ?_)
    ·have h58 := cond_t hb57 h45
     refine sr ?_
     refine wl_val wn rfl (rv_assign (v := .bool false) rfl) ?_
     refine nq ?_
     refine wc_ret ?_
     refine qe_block_ret ?_
     refine qe_then_ret ?_
     refine qe_then_ret ?_
     obtain rfl := oi h58
     have e59 := hx30 _ rfl
     subst e59
     refine qe_block_ret ?_
     refine qe_then_ret ?_
     obtain rfl := oi h22
     refine qe_then_ret ?_
     obtain rfl := oi h13
     exact qe_ret (vs := [_]) Tryz.results139 ⟨rfl, trivial⟩ ⟨K53, rfl, hS55⟩
    ·have h58 := cond_f hb57 h45
     refine wc_skip ?_
     refine qe_block ?_
     refine qe_seq ?_
     refine wc_region ?_
     refine vm rfl rfl ?_
     refine wl_val wn rfl (rv_add rfl rfl) ?_
     refine va rfl rfl ?_
     refine wl_nil ?_
     obtain rfl := oi h58
     exact qe_mid' ⟨_, rfl, K53, rfl, hS55, (hl24.trans hl56), (w64_rng _)⟩ ⟨rfl, rfl, rfl, trivial⟩
   ·have h32 := cond_f hb31 h29
    refine wc_exit ?_
    refine qe_then_exit ?_
    refine qe_then_exit ?_
    obtain rfl := oi h32
    have e60 := hx30 _ rfl
    subst e60
    refine qe_block_eq ?_
    obtain rfl := oi h22
    exact qe_mid' ⟨_, K23, rfl, rfl, hS26, hl24⟩ trivial
  ·rintro _ w17 ⟨s14, K15, rfl, rfl, hS18, hl16⟩
   refine qr ?_
   refine wl_val wn rfl (rv_assign (v := .bool true) rfl) ?_
   refine nq ?_
   refine wc_ret ?_
   obtain rfl := oi h13
   exact qe_ret (vs := [_]) Tryz.results139 ⟨rfl, trivial⟩ ⟨K15, rfl, hS18⟩

set_option maxHeartbeats 2000000 in
theorem ok_spec_l7SameEntry (F : Nat) {w : World} {K : KMap} {a3 : Option Addr} {n4 c5 : Nat} {a9 : Option Addr} {n10 c11 : Nat} {p0_a : GEntry} {p1_b : GEntry} {r : Bool} (hS : SH w K [] w K []) (hl1 : p0_a.Field.length ≤ maxLen) (hl2 : p0_a.Term.length ≤ maxLen) (hs6 : SliceAt tGPost K a3 n4 c5 p0_a.Posts) (hl7 : p1_b.Field.length ≤ maxLen) (hl8 : p1_b.Term.length ≤ maxLen) (hs12 : SliceAt tGPost K a9 n10 c11 p1_b.Posts) (hm : M.spec_l7SameEntry F p0_a p1_b = some r) :
  Calls Tryz.prog 96 #[.agg #[sv p0_a.Field, sv p0_a.Term, .slice a3 n4 c5], .agg #[sv p1_b.Field, sv p1_b.Term, .slice a9 n10 c11]] w fun e w' => ∃ (K' : KMap), e = .returned (.bool r) ∧ SH w K [] w' K' [] := by
 rw [M.spec_l7SameEntry] at hm
 refine calls_in Tryz.func96 rfl Tryz.ntmps96 rfl ?_
 refine sr ?_
 refine wl_box wn rfl rfl hS ?_
 intro g13 w14 hS15
 have hS16 : SH _ _ _ _ _ [obj g13 [sv p0_a.Field, sv p0_a.Term, .slice a3 n4 c5] 94] := hS15
 refine wl_box wn rfl rfl hS16 ?_
 intro g17 w18 hS19
 have hS20 : SH _ _ _ _ _ [obj g17 [sv p1_b.Field, sv p1_b.Term, .slice a9 n10 c11] 94, _] := hS19
 refine wl_val wn rfl (rv_assign (v := .bool false) rfl) ?_
 refine ns ?_
 refine wc_seq ?_
 obtain ⟨o21, h22, h23⟩ := ob hm
 refine wc_cutg (fun E' w' => ∃ (K24 : KMap), E' = [(2, .pointer (some ⟨g13, 0, none⟩)), (3, .pointer (some ⟨g17, 0, none⟩)), (26, .bool o21)] ∧ SH w K [] w' K24 [obj g13 [sv p0_a.Field, sv p0_a.Term, .slice a3 n4 c5] 94, obj g17 [sv p1_b.Field, sv p1_b.Term, .slice a9 n10 c11] 94] ∧ KLe K K24) ?_ ?_
 ·refine wc_region ?_
  refine wl_val wn rfl (rv_fieldAddr ff94_0 rfl) ?_
  refine wl_val wn rfl (rv_loadm1 tf9 rfl (.tail _ (.head _)) hS20 rfl) ?_
  refine wl_val wn rfl (rv_fieldAddr ff94_0 rfl) ?_
  refine wl_val wn rfl (rv_loadm1 tf9 rfl (.head _) hS20 rfl) ?_
  refine wl_val wn rfl (rv_sneq rfl rfl) ?_
  refine vm rfl rfl ?_
  rcases bool_tf ((!(p0_a.Field == p1_b.Field))) with hb28 | hb28
  ·have h29 := cond_t hb28 h22
   refine wl_un (ug rfl rfl hb28) rfl ?_
   refine wl_un (ug rfl rfl hb28) rfl ?_
   refine wl_un (ug rfl rfl hb28) rfl ?_
   refine wl_un (ug rfl rfl hb28) rfl ?_
   refine wl_un (ug rfl rfl hb28) rfl ?_
   refine wl_val wn rfl (rv_pick_t (v := .bool true) rfl hb28 rfl) ?_
   refine vm rfl rfl ?_
   refine wl_un (ug rfl rfl rfl) rfl ?_
   refine wl_un (ug rfl rfl rfl) rfl ?_
   refine wl_un (ug rfl rfl rfl) rfl ?_
   refine wl_un (ug rfl rfl rfl) rfl ?_
   refine wl_un (ug rfl rfl rfl) rfl ?_
   refine wl_un (ug rfl rfl rfl) rfl ?_
   refine wl_un (ug rfl rfl rfl) rfl ?_
   refine wl_val wn rfl (rv_pick_t (v := .bool true) rfl rfl rfl) ?_
   refine wl_nil ?_
   obtain rfl := oi h29
   have hS30 : SH _ _ _ _ _ [_, _] := SH.front (p := [_]) hS20
   exact qe_mid' ⟨K, rfl, hS30, (KLe.refl _)⟩ ⟨rfl, rfl, rfl, trivial⟩
  ·have h29 := cond_f hb28 h22
   refine wl_val (wg rfl rfl hb28) rfl (rv_fieldAddr ff94_1 rfl) ?_
   refine wl_val (wg rfl rfl hb28) rfl (rv_loadm1 tf9 rfl (.tail _ (.head _)) hS20 rfl) ?_
   refine wl_val (wg rfl rfl hb28) rfl (rv_fieldAddr ff94_1 rfl) ?_
   refine wl_val (wg rfl rfl hb28) rfl (rv_loadm1 tf9 rfl (.head _) hS20 rfl) ?_
   refine wl_val (wg rfl rfl hb28) rfl (rv_sneq rfl rfl) ?_
   refine wl_val wn rfl (rv_pick_f rfl hb28 rfl) ?_
   refine vm rfl rfl ?_
   rcases bool_tf ((!(p0_a.Term == p1_b.Term))) with hb31 | hb31
   ·have h32 := cond_t hb31 h29
    refine wl_un (ug rfl rfl hb31) rfl ?_
    refine wl_un (ug rfl rfl hb31) rfl ?_
    refine wl_un (ug rfl rfl hb31) rfl ?_
    refine wl_un (ug rfl rfl hb31) rfl ?_
    refine wl_un (ug rfl rfl hb31) rfl ?_
    refine wl_un (ug rfl rfl hb31) rfl ?_
    refine wl_un (ug rfl rfl hb31) rfl ?_
    refine wl_val wn rfl (rv_pick_t (v := .bool true) rfl hb31 rfl) ?_
    refine wl_nil ?_
    obtain rfl := oi h32
    have hS33 : SH _ _ _ _ _ [_, _] := SH.front (p := [_]) hS20
    exact qe_mid' ⟨K, rfl, hS33, (KLe.refl _)⟩ ⟨rfl, rfl, rfl, trivial⟩
   ·have h32 := cond_f hb31 h29
    refine wl_val (wg rfl rfl hb31) rfl (rv_fieldAddr ff94_2 rfl) ?_
    refine wl_val (wg rfl rfl hb31) rfl (rv_loadm1 tf33 rfl (.tail _ (.head _)) hS20 rfl) ?_
    refine wl_val (wg rfl rfl hb31) rfl (rv_len (t := tGPost) Tryz.underlying33 rfl hs6) ?_
    refine wl_val (wg rfl rfl hb31) rfl (rv_fieldAddr ff94_2 rfl) ?_
    refine wl_val (wg rfl rfl hb31) rfl (rv_loadm1 tf33 rfl (.head _) hS20 rfl) ?_
    refine wl_val (wg rfl rfl hb31) rfl (rv_len (t := tGPost) Tryz.underlying33 rfl hs12) ?_
    refine wl_val (wg rfl rfl hb31) rfl (rv_neq rfl rfl) ?_
    refine wl_val wn rfl (rv_pick_f rfl hb31 rfl) ?_
    refine wl_nil ?_
    obtain rfl := oi h32
    have hS34 : SH _ _ _ _ _ [_, _] := SH.front (p := [_]) hS20
    exact qe_mid' ⟨K, rfl, hS34, (KLe.refl _)⟩ ⟨rfl, rfl, rfl, trivial⟩
 ·rintro _ w26 ⟨K24, rfl, hS27, hl25⟩
  refine qe_seq ?_
  refine wc_cond rfl (fun hb35 => ?_) (fun hb35 => ?_)
  ·have h36 := cond_t hb35 h23
   refine sr ?_
   refine wl_val wn rfl (rv_assign (v := .bool false) rfl) ?_
   refine nq ?_
   refine rr ?_
   obtain rfl := oi h36
   have hS37 : SH _ _ _ _ _ [] := SH.sublist hS27 (.cons _ (.cons _ .slnil))
   exact qe_ret (vs := [_]) Tryz.results96 ⟨rfl, trivial⟩ ⟨K24, rfl, hS37⟩
  ·have h36 := cond_f hb35 h23
   refine wc_skip ?_
   refine qs ?_
   refine sr ?_
   refine wl_val wn rfl (rv_assign (v := .int .i64 0) rfl) ?_
   refine nq ?_
   obtain ⟨o38, h39, h40⟩ := ob h36
   refine wc_cutg (fun E' w' => ∃ (s41 : Unit) (K42 : KMap), o38 = .inl s41 ∧ E' = [] ∧ SH w K [] w' K42 [] ∧ KLe K24 K42) ?_ ?_
   ·refine wc_block ?_
    obtain ⟨r47, h48, h49⟩ := ob h39
    refine wc_while' (fun (s46 : Int) E' w' => ∃ (K50 : KMap), E' = [(2, .pointer (some ⟨g13, 0, none⟩)), (3, .pointer (some ⟨g17, 0, none⟩)), (5, .int .i64 s46)] ∧ SH w K [] w' K50 [obj g13 [sv p0_a.Field, sv p0_a.Term, .slice a3 n4 c5] 94, obj g17 [sv p1_b.Field, sv p1_b.Term, .slice a9 n10 c11] 94] ∧ KLe K24 K50 ∧ rng64 s46) h48 ⟨K24, rfl, hS27, (KLe.refl _), (by decide : rng64 0)⟩ ⟨rfl, rfl, rfl, trivial⟩ ?_
    rintro s46 _ w52 r55 h56 hx57 ⟨K50, rfl, hS53, hl51, hr54⟩
    refine wc_seq ?_
    refine sr ?_
    refine vm rfl rfl ?_
    refine wl_val wn rfl (rv_fieldAddr ff94_2 rfl) ?_
    refine wl_val wn rfl (rv_loadm1 tf33 rfl (.head _) hS53 rfl) ?_
    refine wl_val wn rfl (rv_len (t := tGPost) Tryz.underlying33 rfl (SliceAt.mono (hl25.trans hl51) hs6)) ?_
    refine wl_val wn rfl (rv_lss rfl rfl) ?_
    refine nq ?_
    refine wc_cond rfl (fun hb58 => ?_) (fun hb58 => ?_)
    ·have h59 := cond_t hb58 h56
     refine wc_skip ?_
     refine qs ?_
     refine wc_block ?_
     refine wc_seq ?_
     obtain ⟨o60, h61, h62⟩ := ob h59
     refine wc_cutg (fun E' w' => ∃ (K63 : KMap), E' = [(2, .pointer (some ⟨g13, 0, none⟩)), (3, .pointer (some ⟨g17, 0, none⟩)), (5, .int .i64 s46), (62, .bool o60)] ∧ SH w K [] w' K63 [obj g13 [sv p0_a.Field, sv p0_a.Term, .slice a3 n4 c5] 94, obj g17 [sv p1_b.Field, sv p1_b.Term, .slice a9 n10 c11] 94] ∧ KLe K50 K63) ?_ ?_
     ·refine wc_quiet mixed (by kernel_rfl) hS53 ?_
      refine wq_val wn rfl (fun _ _ => (rv_fieldAddr ff94_2 rfl)) ?_
      refine wq_val wn rfl (rq_loadm1 tf33 rfl (.head _) rfl) ?_
      refine qm rfl rfl ?_
      obtain ⟨x67, hx68, h69⟩ := ob h61
      refine wq_indexAddr (t := tGPost) wn rfl Tryz.underlying33 tf48 rfl rfl (SliceAt.mono (hl25.trans hl51) hs6) hx68 ?_
      intro b70 o71 u72 hu73 ha74
      obtain ⟨a76, n77, c78, rfl, hr75, hs79⟩ := hu73
      have ha80 : AtK _ b70 o71 [.int .i64 x67.Doc, .slice a76 n77 c78] := ha74
      refine wq_val wn rfl (fun _ _ => (rv_fieldAddr ff48_0 rfl)) ?_
      refine wq_val wn rfl (rq_load1 tf3 rfl (ha80 0 _ rfl)) ?_
      refine wq_val wn rfl (fun _ _ => (rv_fieldAddr ff94_2 rfl)) ?_
      refine wq_val wn rfl (rq_loadm1 tf33 rfl (.tail _ (.head _)) rfl) ?_
      refine qm rfl rfl ?_
      obtain ⟨x81, hx82, h83⟩ := ob h69
      refine wq_indexAddr (t := tGPost) wn rfl Tryz.underlying33 tf48 rfl rfl (SliceAt.mono (hl25.trans hl51) hs12) hx82 ?_
      intro b84 o85 u86 hu87 ha88
      obtain ⟨a90, n91, c92, rfl, hr89, hs93⟩ := hu87
      have ha94 : AtK _ b84 o85 [.int .i64 x81.Doc, .slice a90 n91 c92] := ha88
      refine wq_val wn rfl (fun _ _ => (rv_fieldAddr ff48_0 rfl)) ?_
      refine wq_val wn rfl (rq_load1 tf3 rfl (ha94 0 _ rfl)) ?_
      refine wq_val wn rfl (fun _ _ => (rv_neq rfl rfl)) ?_
      refine qm rfl rfl ?_
      rcases bool_tf ((!(x67.Doc == x81.Doc))) with hb95 | hb95
      ·have h96 := cond_t hb95 h83
       refine wq_un (ug rfl rfl hb95) rfl ?_
       refine wq_un (ug rfl rfl hb95) rfl ?_
       refine wq_un (ug rfl rfl hb95) rfl ?_
       refine wq_un (ug rfl rfl hb95) rfl ?_
       refine wq_un (ug rfl rfl hb95) rfl ?_
       refine wq_un (ug rfl rfl hb95) rfl ?_
       refine wq_un (ug rfl rfl hb95) rfl ?_
       refine wq_un (ug rfl rfl hb95) rfl ?_
       refine wq_un (ug rfl rfl hb95) rfl ?_
       refine wq_un (ug rfl rfl hb95) rfl ?_
       refine wq_un (ug rfl rfl hb95) rfl ?_
       refine wq_un (ug rfl rfl hb95) rfl ?_
       refine wq_un (ug rfl rfl hb95) rfl ?_
       refine wq_un (ug rfl rfl hb95) rfl ?_
       refine wq_val wn rfl (fun _ _ => (rv_pick_t (v := .bool true) rfl hb95 rfl)) ?_
       refine wq_nil ?_
       rintro w98 ⟨K97, hS99, hl100⟩
       obtain rfl := oi h96
       exact qe_mid' ⟨K97, rfl, hS99, hl100⟩ ⟨rfl, rfl, rfl, rfl, trivial⟩
      ·have h96 := cond_f hb95 h83
       refine wq_val (wg rfl rfl hb95) rfl (fun _ _ => (rv_fieldAddr ff94_2 rfl)) ?_
       refine wq_val (wg rfl rfl hb95) rfl (rq_loadm1 tf33 rfl (.head _) rfl) ?_
       refine wq_val (wg rfl rfl hb95) rfl (fun _ _ => (rv_move rfl)) ?_
       obtain ⟨x101, hx102, h103⟩ := ob h96
       refine wq_indexAddr (t := tGPost) (wg rfl rfl hb95) rfl Tryz.underlying33 tf48 rfl rfl (SliceAt.mono (hl25.trans hl51) hs6) hx102 ?_
       intro b104 o105 u106 hu107 ha108
       obtain ⟨a110, n111, c112, rfl, hr109, hs113⟩ := hu107
       have ha114 : AtK _ b104 o105 [.int .i64 x101.Doc, .slice a110 n111 c112] := ha108
       refine wq_val (wg rfl rfl hb95) rfl (fun _ _ => (rv_fieldAddr ff48_1 rfl)) ?_
       refine wq_val (wg rfl rfl hb95) rfl (rq_load1 tf37 rfl (ha114 1 _ rfl)) ?_
       refine wq_val (wg rfl rfl hb95) rfl (fun _ _ => (rv_fieldAddr ff94_2 rfl)) ?_
       refine wq_val (wg rfl rfl hb95) rfl (rq_loadm1 tf33 rfl (.tail _ (.head _)) rfl) ?_
       refine wq_val (wg rfl rfl hb95) rfl (fun _ _ => (rv_move rfl)) ?_
       obtain ⟨x115, hx116, h117⟩ := ob h103
       refine wq_indexAddr (t := tGPost) (wg rfl rfl hb95) rfl Tryz.underlying33 tf48 rfl rfl (SliceAt.mono (hl25.trans hl51) hs12) hx116 ?_
       intro b118 o119 u120 hu121 ha122
       obtain ⟨a124, n125, c126, rfl, hr123, hs127⟩ := hu121
       have ha128 : AtK _ b118 o119 [.int .i64 x115.Doc, .slice a124 n125 c126] := ha122
       refine wq_val (wg rfl rfl hb95) rfl (fun _ _ => (rv_fieldAddr ff48_1 rfl)) ?_
       refine wq_val (wg rfl rfl hb95) rfl (rq_load1 tf37 rfl (ha128 1 _ rfl)) ?_
       obtain ⟨r129, hx130, h131⟩ := ob h117
       refine wq_call (v := .bool r129) (wg rfl rfl hb95) rfl (fun _ => rt_call (vs := [.slice a110 n111 c112, .slice a124 n125 c126]) co139 rfl) (fun w134 ⟨K132, hS133, hl135⟩ => ((ok_spec_l7SameInts F) hS133.enter0 (SliceAt.mono hl135 hs113) (SliceAt.mono hl135 hs127) hx130).mono fun e w' ⟨K', he, hS'⟩ => ⟨he, K', hS133.call0 hS', hl135.trans hS'.le⟩) ?_
       refine wq_val (wg rfl rfl hb95) rfl (fun _ _ => (rv_not rfl)) ?_
       refine wq_val wn rfl (fun _ _ => (rv_pick_f rfl hb95 rfl)) ?_
       refine wq_nil ?_
       rintro w137 ⟨K136, hS138, hl139⟩
       obtain rfl := oi h131
       exact qe_mid' ⟨K136, rfl, hS138, hl139⟩ ⟨rfl, rfl, rfl, rfl, trivial⟩
     ·rintro _ w65 ⟨K63, rfl, hS66, hl64⟩
      refine qe_seq ?_
      refine wc_cond rfl (fun hb140 => ?_) (fun hb140 => ?_)
      ·have h141 := cond_t hb140 h62
       refine sr ?_
       refine wl_val wn rfl (rv_assign (v := .bool false) rfl) ?_
       refine nq ?_
       refine wc_ret ?_
       refine qe_block_ret ?_
       refine qe_then_ret ?_
       refine qe_then_ret ?_
       obtain rfl := oi h141
       have e142 := hx57 _ rfl
       subst e142
       refine qe_block_ret ?_
       refine qe_then_ret ?_
       obtain rfl := oi h49
       refine qe_then_ret ?_
       obtain rfl := oi h40
       have hS143 : SH _ _ _ _ _ [] := SH.sublist hS66 (.cons _ (.cons _ .slnil))
       exact qe_ret (vs := [_]) Tryz.results96 ⟨rfl, trivial⟩ ⟨K63, rfl, hS143⟩
      ·have h141 := cond_f hb140 h62
       refine wc_skip ?_
       refine qe_block ?_
       refine qe_seq ?_
       refine wc_region ?_
       refine vm rfl rfl ?_
       refine wl_val wn rfl (rv_add rfl rfl) ?_
       refine va rfl rfl ?_
       refine wl_nil ?_
       obtain rfl := oi h141
       exact qe_mid' ⟨_, rfl, K63, rfl, hS66, (hl51.trans hl64), (w64_rng _)⟩ ⟨rfl, rfl, rfl, trivial⟩
    ·have h59 := cond_f hb58 h56
     refine wc_exit ?_
     refine qe_then_exit ?_
     refine qe_then_exit ?_
     obtain rfl := oi h59
     have e144 := hx57 _ rfl
     subst e144
     refine qe_block_eq ?_
     obtain rfl := oi h49
     have hS145 : SH _ _ _ _ _ [] := SH.sublist hS53 (.cons _ (.cons _ .slnil))
     exact qe_mid' ⟨_, K50, rfl, rfl, hS145, hl51⟩ trivial
   ·rintro _ w44 ⟨s41, K42, rfl, rfl, hS45, hl43⟩
    refine qr ?_
    refine wl_val wn rfl (rv_assign (v := .bool true) rfl) ?_
    refine nq ?_
    refine wc_ret ?_
    obtain rfl := oi h40
    exact qe_ret (vs := [_]) Tryz.results96 ⟨rfl, trivial⟩ ⟨K42, rfl, hS45⟩

set_option maxHeartbeats 2000000 in
theorem ok_spec_l7Ok (F : Nat) {w : World} {K : KMap} {a1 : Option Addr} {n2 c3 : Nat} {a5 : Option Addr} {n6 c7 : Nat} {a9 : Option Addr} {n10 c11 : Nat} {a13 : Option Addr} {n14 c15 : Nat} {p0_c : GConf} {p1_s : GSeg} {r : Bool} (hS : SH w K [] w K []) (hs4 : SliceAt tStr K a1 n2 c3 p0_c.Stops) (hs8 : SliceAt tGSyn K a5 n6 c7 p0_c.Syns) (hs12 : SliceAt tGDoc K a9 n10 c11 p1_s.Docs) (hs16 : SliceAt tGEntry K a13 n14 c15 p1_s.Entries) (hm : M.spec_l7Ok F p0_c p1_s = some r) :
  Calls Tryz.prog 48 #[.agg #[.slice a1 n2 c3, .slice a5 n6 c7], .agg #[.slice a9 n10 c11, .slice a13 n14 c15]] w fun e w' => ∃ (K' : KMap), e = .returned (.bool r) ∧ SH w K [] w' K' [] := by
 rw [M.spec_l7Ok] at hm
 refine calls_in Tryz.func48 rfl Tryz.ntmps48 rfl ?_
 refine sr ?_
 refine wl_box wn rfl rfl hS ?_
 intro g17 w18 hS19
 have hS20 : SH _ _ _ _ _ [obj g17 [.slice a1 n2 c3, .slice a5 n6 c7] 26] := hS19
 refine wl_box wn rfl rfl hS20 ?_
 intro g21 w22 hS23
 have hS24 : SH _ _ _ _ _ [obj g21 [.slice a9 n10 c11, .slice a13 n14 c15] 30, _] := hS23
 refine wl_val wn rfl (rv_assign (v := .bool false) rfl) ?_
 refine ns ?_
 refine wc_seq ?_
 obtain ⟨o25, h26, h27⟩ := ob hm
 refine wc_cutg (fun E' w' => ∃ (K28 : KMap), E' = [(2, .pointer (some ⟨g17, 0, none⟩)), (3, .pointer (some ⟨g21, 0, none⟩)), (15, .bool o25)] ∧ SH w K [] w' K28 [obj g17 [.slice a1 n2 c3, .slice a5 n6 c7] 26, obj g21 [.slice a9 n10 c11, .slice a13 n14 c15] 30] ∧ KLe K K28) ?_ ?_
 ·refine wc_region ?_
  refine wl_val wn rfl (rv_loadmS (ds := [.slice a1 n2 c3, .slice a5 n6 c7]) tf26 rfl (.tail _ (.head _)) hS24 rfl rfl) ?_
  obtain ⟨r32, hx33, h34⟩ := ob h26
  refine wl_call wn rfl (rt_call (vs := [.agg #[.slice a1 n2 c3, .slice a5 n6 c7]]) co64 rfl) ((ok_spec_l2Ok F) hS24.enter0 hs4 hs8 hx33) ?_
  rintro e38 w36 ⟨K35, rfl, hS37⟩
  refine ⟨_, rfl, ?_⟩
  have hS39 : SH _ _ _ _ _ [_, _] := SH.call0 hS24 hS37
  refine wl_val wn rfl (rv_not rfl) ?_
  refine vm rfl rfl ?_
  rcases bool_tf ((!r32)) with hb40 | hb40
  ·have h41 := cond_t hb40 h34
   refine wl_un (ug rfl rfl hb40) rfl ?_
   refine wl_un (ug rfl rfl hb40) rfl ?_
   refine wl_un (ug rfl rfl hb40) rfl ?_
   refine wl_un (ug rfl rfl hb40) rfl ?_
   refine wl_val wn rfl (rv_pick_t (v := .bool true) rfl hb40 rfl) ?_
   refine wl_nil ?_
   obtain rfl := oi h41
   have hS42 : SH _ _ _ _ _ [_, _] := SH.front (p := [_]) hS39
   exact qe_mid' ⟨K35, rfl, hS42, hS37.le⟩ ⟨rfl, rfl, rfl, trivial⟩
  ·have h41 := cond_f hb40 h34
   refine wl_val (wg rfl rfl hb40) rfl (rv_fieldAddr ff30_0 rfl) ?_
   refine wl_val (wg rfl rfl hb40) rfl (rv_loadm1 tf27 rfl (.head _) hS39 rfl) ?_
   obtain ⟨r43, hx44, h45⟩ := ob h41
   refine wl_call (wg rfl rfl hb40) rfl (rt_call (vs := [.slice a9 n10 c11]) co65 rfl) ((ok_spec_l6Docs F) hS39.enter0 (SliceAt.mono hS37.le hs12) hx44) ?_
   rintro e49 w47 ⟨K46, rfl, hS48⟩
   refine ⟨_, rfl, ?_⟩
   have hS50 : SH _ _ _ _ _ [_, _] := SH.call0 hS39 hS48
   refine wl_val (wg rfl rfl hb40) rfl (rv_not rfl) ?_
   refine wl_val wn rfl (rv_pick_f rfl hb40 rfl) ?_
   refine wl_nil ?_
   obtain rfl := oi h45
   have hS51 : SH _ _ _ _ _ [_, _] := SH.front (p := [_]) hS50
   exact qe_mid' ⟨K46, rfl, hS51, (hS37.le.trans hS48.le)⟩ ⟨rfl, rfl, rfl, trivial⟩
 ·rintro _ w30 ⟨K28, rfl, hS31, hl29⟩
  refine qe_seq ?_
  refine wc_cond rfl (fun hb52 => ?_) (fun hb52 => ?_)
  ·have h53 := cond_t hb52 h27
   refine sr ?_
   refine wl_val wn rfl (rv_assign (v := .bool false) rfl) ?_
   refine nq ?_
   refine rr ?_
   obtain rfl := oi h53
   have hS54 : SH _ _ _ _ _ [] := SH.sublist hS31 (.cons _ (.cons _ .slnil))
   exact qe_ret (vs := [_]) Tryz.results48 ⟨rfl, trivial⟩ ⟨K28, rfl, hS54⟩
  ·have h53 := cond_f hb52 h27
   refine wc_skip ?_
   refine qr ?_
   refine wl_val wn rfl (rv_loadmS (ds := [.slice a1 n2 c3, .slice a5 n6 c7]) tf26 rfl (.head _) hS31 rfl rfl) ?_
   refine wl_val wn rfl (rv_fieldAddr ff30_0 rfl) ?_
   refine wl_val wn rfl (rv_loadm1 tf27 rfl (.tail _ (.head _)) hS31 rfl) ?_
   obtain ⟨r55, hx56, h57⟩ := ob h53
   refine wl_call wn rfl (rt_call (vs := [.agg #[.slice a1 n2 c3, .slice a5 n6 c7], .slice a9 n10 c11]) co66 rfl) ((ok_spec_l7Of F) hS31.enter0 (SliceAt.mono hl29 hs4) (SliceAt.mono hl29 hs8) (SliceAt.mono hl29 hs12) hx56) ?_
   rintro e71 w59 ⟨a61, n62, c63, a65, n66, c67, cs68, K58, rfl, hS60, hs64, hrow69, hm70⟩
   refine ⟨_, rfl, ?_⟩
   have hS72 : SH _ _ _ _ _ [_, _, _, _] := SH.call0 hS31 hS60
   have hS73 : SH _ _ _ _ _ [_, _, _, _] := SH.front (p := [_]) hS72
   obtain ⟨K74, hl75, hs76, hS77⟩ := SH.freezeI hS73 hrow69 hm70
   refine wl_alloc wn rfl tf30 hS77 ?_
   intro g78 w79 hS80
   have hS81 : SH _ _ _ _ _ [obj g78 [.slice none 0 0, .slice none 0 0] 30, _, _, _, _] := hS80
   refine wl_store (cs' := [.slice a61 n62 c63, .slice a65 n66 c67]) (v := .agg #[.slice a61 n62 c63, .slice a65 n66 c67]) wn tf30 rfl rfl rfl (by simp [Value.cells, Value.oneCell']) hS81 rfl rfl ?_
   intro w82 hS83
   refine nsr ?_
   refine wl_val wn rfl (rv_fieldAddr ff30_1 rfl) ?_
   refine wl_val wn rfl (rv_loadm1 tf28 rfl (.head _) hS83 rfl) ?_
   refine wl_val wn rfl (rv_len (t := tGEntry) Tryz.underlying28 rfl hs76) ?_
   refine wl_val wn rfl (rv_fieldAddr ff30_1 rfl) ?_
   refine wl_val wn rfl (rv_loadm1 tf28 rfl (.tail _ (.tail _ (.tail _ (.tail _ (.head _))))) hS83 rfl) ?_
   refine wl_val wn rfl (rv_len (t := tGEntry) Tryz.underlying28 rfl (SliceAt.mono ((hl29.trans hS60.le).trans hl75) hs16)) ?_
   refine wl_val wn rfl (rv_neq rfl rfl) ?_
   refine nq ?_
   refine wc_cond rfl (fun hb84 => ?_) (fun hb84 => ?_)
   ·have h85 := cond_t hb84 h57
    refine sr ?_
    refine wl_val wn rfl (rv_assign (v := .bool false) rfl) ?_
    refine nq ?_
    refine rr ?_
    obtain rfl := oi h85
    have hS86 : SH _ _ _ _ _ [] := SH.sublist hS83 (.cons _ (.cons _ (.cons _ (.cons _ (.cons _ .slnil)))))
    exact qe_ret (vs := [_]) Tryz.results48 ⟨rfl, trivial⟩ ⟨K74, rfl, hS86⟩
   ·have h85 := cond_f hb84 h57
    refine wc_skip ?_
    refine qs ?_
    refine sr ?_
    refine wl_val wn rfl (rv_assign (v := .int .i64 0) rfl) ?_
    refine nq ?_
    obtain ⟨o87, h88, h89⟩ := ob h85
    refine wc_cutg (fun E' w' => ∃ (s90 : Unit) (K91 : KMap), o87 = .inl s90 ∧ E' = [] ∧ SH w K [] w' K91 [] ∧ KLe K74 K91) ?_ ?_
    ·refine wc_block ?_
     obtain ⟨r96, h97, h98⟩ := ob h88
     have hS104 : SH _ _ _ _ _ [_, _, _, _, _] := SH.front (p := [_, _, _, _]) hS83
     have hS105 : SH _ _ _ _ _ [_, _] := SH.sublist hS104 (.cons_cons _ (.cons_cons _ (.cons _ (.cons _ (.cons _ .slnil)))))
     refine wc_while' (fun (s95 : Int) E' w' => ∃ (K99 : KMap), E' = [(3, .pointer (some ⟨g21, 0, none⟩)), (5, .pointer (some ⟨g78, 0, none⟩)), (6, .int .i64 s95)] ∧ SH w K [] w' K99 [obj g21 [.slice a9 n10 c11, .slice a13 n14 c15] 30, obj g78 [.slice a61 n62 c63, .slice a65 n66 c67] 30] ∧ KLe K74 K99 ∧ rng64 s95) h97 ⟨K74, rfl, hS105, (KLe.refl _), (by decide : rng64 0)⟩ ⟨rfl, rfl, rfl, trivial⟩ ?_
     rintro s95 _ w101 r106 h107 hx108 ⟨K99, rfl, hS102, hl100, hr103⟩
     refine wc_seq ?_
     refine sr ?_
     refine vm rfl rfl ?_
     refine wl_val wn rfl (rv_fieldAddr ff30_1 rfl) ?_
     refine wl_val wn rfl (rv_loadm1 tf28 rfl (.tail _ (.head _)) hS102 rfl) ?_
     refine wl_val wn rfl (rv_len (t := tGEntry) Tryz.underlying28 rfl (SliceAt.mono hl100 hs76)) ?_
     refine wl_val wn rfl (rv_lss rfl rfl) ?_
     refine nq ?_
     refine wc_cond rfl (fun hb109 => ?_) (fun hb109 => ?_)
     ·have h110 := cond_t hb109 h107
      refine wc_skip ?_
      refine qs ?_
      refine wc_block ?_
      refine wc_seq ?_
      refine wc_quiet mixed (by kernel_rfl) hS102 ?_
      refine wq_val wn rfl (fun _ _ => (rv_fieldAddr ff30_1 rfl)) ?_
      refine wq_val wn rfl (rq_loadm1 tf28 rfl (.tail _ (.head _)) rfl) ?_
      refine qm rfl rfl ?_
      obtain ⟨x111, hx112, h113⟩ := ob h110
      refine wq_indexAddr (t := tGEntry) wn rfl Tryz.underlying28 tf94 rfl rfl (SliceAt.mono hl100 hs76) hx112 ?_
      intro b114 o115 u116 hu117 ha118
      obtain ⟨a121, n122, c123, rfl, hl119, hl120, hs124⟩ := hu117
      have ha125 : AtK _ b114 o115 [sv x111.Field, sv x111.Term, .slice a121 n122 c123] := ha118
      refine wq_val wn rfl (rq_loadS (cs := [sv x111.Field, sv x111.Term, .slice a121 n122 c123]) tf94 rfl ha125 rfl) ?_
      refine wq_val wn rfl (fun _ _ => (rv_fieldAddr ff30_1 rfl)) ?_
      refine wq_val wn rfl (rq_loadm1 tf28 rfl (.head _) rfl) ?_
      refine qm rfl rfl ?_
      obtain ⟨x126, hx127, h128⟩ := ob h113
      refine wq_indexAddr (t := tGEntry) wn rfl Tryz.underlying28 tf94 rfl rfl (SliceAt.mono (((hl29.trans hS60.le).trans hl75).trans hl100) hs16) hx127 ?_
      intro b129 o130 u131 hu132 ha133
      obtain ⟨a136, n137, c138, rfl, hl134, hl135, hs139⟩ := hu132
      have ha140 : AtK _ b129 o130 [sv x126.Field, sv x126.Term, .slice a136 n137 c138] := ha133
      refine wq_val wn rfl (rq_loadS (cs := [sv x126.Field, sv x126.Term, .slice a136 n137 c138]) tf94 rfl ha140 rfl) ?_
      obtain ⟨r141, hx142, h143⟩ := ob h128
      refine wq_call (v := .bool r141) wn rfl (fun _ => rt_call (vs := [.agg #[sv x111.Field, sv x111.Term, .slice a121 n122 c123], .agg #[sv x126.Field, sv x126.Term, .slice a136 n137 c138]]) co96 rfl) (fun w146 ⟨K144, hS145, hl147⟩ => ((ok_spec_l7SameEntry F) hS145.enter0 hl119 hl120 (SliceAt.mono hl147 hs124) hl134 hl135 (SliceAt.mono hl147 hs139) hx142).mono fun e w' ⟨K', he, hS'⟩ => ⟨he, K', hS145.call0 hS', hl147.trans hS'.le⟩) ?_
      refine wq_val wn rfl (fun _ _ => (rv_not rfl)) ?_
      refine wq_nil ?_
      rintro w149 ⟨K148, hS150, hl151⟩
      refine qe_seq ?_
      refine wc_cond rfl (fun hb152 => ?_) (fun hb152 => ?_)
      ·have h153 := cond_t hb152 h143
       refine sr ?_
       refine wl_val wn rfl (rv_assign (v := .bool false) rfl) ?_
       refine nq ?_
       refine wc_ret ?_
       refine qe_block_ret ?_
       refine qe_then_ret ?_
       refine qe_then_ret ?_
       obtain rfl := oi h153
       have e154 := hx108 _ rfl
       subst e154
       refine qe_block_ret ?_
       refine qe_then_ret ?_
       obtain rfl := oi h98
       refine qe_then_ret ?_
       obtain rfl := oi h89
       have hS155 : SH _ _ _ _ _ [] := SH.sublist hS150 (.cons _ (.cons _ .slnil))
       exact qe_ret (vs := [_]) Tryz.results48 ⟨rfl, trivial⟩ ⟨K148, rfl, hS155⟩
      ·have h153 := cond_f hb152 h143
       refine wc_skip ?_
       refine qe_block ?_
       refine qe_seq ?_
       refine wc_region ?_
       refine vm rfl rfl ?_
       refine wl_val wn rfl (rv_add rfl rfl) ?_
       refine va rfl rfl ?_
       refine wl_nil ?_
       obtain rfl := oi h153
       exact qe_mid' ⟨_, rfl, K148, rfl, hS150, (hl100.trans hl151), (w64_rng _)⟩ ⟨rfl, rfl, rfl, trivial⟩
     ·have h110 := cond_f hb109 h107
      refine wc_exit ?_
      refine qe_then_exit ?_
      refine qe_then_exit ?_
      obtain rfl := oi h110
      have e156 := hx108 _ rfl
      subst e156
      refine qe_block_eq ?_
      obtain rfl := oi h98
      have hS157 : SH _ _ _ _ _ [] := SH.sublist hS102 (.cons _ (.cons _ .slnil))
      exact qe_mid' ⟨_, K99, rfl, rfl, hS157, hl100⟩ trivial
    ·rintro _ w93 ⟨s90, K91, rfl, rfl, hS94, hl92⟩
     refine qr ?_
     refine wl_val wn rfl (rv_assign (v := .bool true) rfl) ?_
     refine nq ?_
     refine wc_ret ?_
     obtain rfl := oi h89
     exact qe_ret (vs := [_]) Tryz.results48 ⟨rfl, trivial⟩ ⟨K91, rfl, hS94⟩

set_option maxHeartbeats 2000000 in
theorem ok_spec_l7Long (F : Nat) {w : World} {K : KMap} {a1 : Option Addr} {n2 c3 : Nat} {a5 : Option Addr} {n6 c7 : Nat} {p0_s : GSeg} {p1_field : Str} {p2_id : Int} {r : Int} (hS : SH w K [] w K []) (hs4 : SliceAt tGDoc K a1 n2 c3 p0_s.Docs) (hs8 : SliceAt tGEntry K a5 n6 c7 p0_s.Entries) (hl9 : p1_field.length ≤ maxLen) (hr10 : rng64 p2_id) (hm : M.spec_l7Long F p0_s p1_field p2_id = some r) :
  Calls Tryz.prog 87 #[.agg #[.slice a1 n2 c3, .slice a5 n6 c7], sv p1_field, .int .i64 p2_id] w fun e w' => ∃ (K' : KMap), e = .returned (.int .i64 r) ∧ SH w K [] w' K' [] ∧ rng64 r := by
 rw [M.spec_l7Long] at hm
 refine calls_in Tryz.func87 rfl Tryz.ntmps87 rfl ?_
 refine sr ?_
 refine wl_box wn rfl rfl hS ?_
 intro g11 w12 hS13
 have hS14 : SH _ _ _ _ _ [obj g11 [.slice a1 n2 c3, .slice a5 n6 c7] 30] := hS13
 refine wl_val wn rfl (rv_assign (v := .int .i64 0) rfl) ?_
 refine nr ?_
 refine wl_val wn rfl (rv_assign (v := .int .i64 0) rfl) ?_
 refine nsr ?_
 refine wl_val wn rfl (rv_assign (v := .int .i64 0) rfl) ?_
 refine nq ?_
 obtain ⟨o15, h16, h17⟩ := ob hm
 refine wc_cutg (fun E' w' => ∃ (K18 : KMap), E' = [(7, .int .i64 o15)] ∧ SH w K [] w' K18 [] ∧ KLe K K18 ∧ rng64 o15) ?_ ?_
 ·refine wc_block ?_
  obtain ⟨r24, h25, h26⟩ := ob h16
  refine wc_while' (fun (s23 : Int × Int) E' w' => ∃ (K27 : KMap), E' = [(1, sv p1_field), (2, .int .i64 p2_id), (3, .pointer (some ⟨g11, 0, none⟩)), (7, .int .i64 s23.1), (8, .int .i64 s23.2)] ∧ SH w K [] w' K27 [obj g11 [.slice a1 n2 c3, .slice a5 n6 c7] 30] ∧ KLe K K27 ∧ rng64 s23.1 ∧ rng64 s23.2) h25 ⟨K, rfl, hS14, (KLe.refl _), (by decide : rng64 0), (by decide : rng64 0)⟩ ⟨rfl, rfl, rfl, rfl, rfl, trivial⟩ ?_
  rintro s23 _ w29 r33 h34 hx35 ⟨K27, rfl, hS30, hl28, hr31, hr32⟩
  refine wc_seq ?_
  refine sr ?_
  refine vm rfl rfl ?_
  refine wl_val wn rfl (rv_fieldAddr ff30_1 rfl) ?_
  refine wl_val wn rfl (rv_loadm1 tf28 rfl (.head _) hS30 rfl) ?_
  refine wl_val wn rfl (rv_len (t := tGEntry) Tryz.underlying28 rfl (SliceAt.mono hl28 hs8)) ?_
  refine wl_val wn rfl (rv_lss rfl rfl) ?_
  refine nq ?_
  refine wc_cond rfl (fun hb36 => ?_) (fun hb36 => ?_)
  ·have h37 := cond_t hb36 h34
   refine wc_skip ?_
   refine qs ?_
   refine wc_block ?_
   refine sr ?_
   refine wl_val wn rfl (rv_assign (v := .int .i64 0) rfl) ?_
   refine nq ?_
   obtain ⟨o38, h39, h40⟩ := ob h37
   refine wc_cutg (fun E' w' => ∃ (K41 : KMap), E' = [(1, sv p1_field), (2, .int .i64 p2_id), (3, .pointer (some ⟨g11, 0, none⟩)), (7, .int .i64 o38), (8, .int .i64 s23.2)] ∧ SH w K [] w' K41 [obj g11 [.slice a1 n2 c3, .slice a5 n6 c7] 30] ∧ KLe K27 K41 ∧ rng64 o38) ?_ ?_
   ·refine wc_block ?_
    obtain ⟨r47, h48, h49⟩ := ob h39
    refine wc_while' (fun (s46 : Int × Int) E' w' => ∃ (K50 : KMap), E' = [(1, sv p1_field), (2, .int .i64 p2_id), (3, .pointer (some ⟨g11, 0, none⟩)), (7, .int .i64 s46.1), (8, .int .i64 s23.2), (9, .int .i64 s46.2)] ∧ SH w K [] w' K50 [obj g11 [.slice a1 n2 c3, .slice a5 n6 c7] 30] ∧ KLe K27 K50 ∧ rng64 s46.1 ∧ rng64 s46.2) h48 ⟨K27, rfl, hS30, (KLe.refl _), hr31, (by decide : rng64 0)⟩ ⟨rfl, rfl, rfl, rfl, rfl, rfl, trivial⟩ ?_
    rintro s46 _ w52 r56 h57 hx58 ⟨K50, rfl, hS53, hl51, hr54, hr55⟩
    refine wc_seq ?_
    refine wc_seq ?_
    obtain ⟨o59, h60, h61⟩ := ob h57
    refine wc_cutg (fun E' w' => ∃ (K62 : KMap), E' = [(1, sv p1_field), (2, .int .i64 p2_id), (3, .pointer (some ⟨g11, 0, none⟩)), (7, .int .i64 s46.1), (8, .int .i64 s23.2), (9, .int .i64 s46.2), (35, .bool o59)] ∧ SH w K [] w' K62 [obj g11 [.slice a1 n2 c3, .slice a5 n6 c7] 30] ∧ KLe K50 K62) ?_ ?_
    ·refine wc_region ?_
     refine vm rfl rfl ?_
     refine wl_val wn rfl (rv_fieldAddr ff30_1 rfl) ?_
     refine wl_val wn rfl (rv_loadm1 tf28 rfl (.head _) hS53 rfl) ?_
     refine vm rfl rfl ?_
     obtain ⟨x66, hx67, h68⟩ := ob h60
     refine wl_indexAddr (t := tGEntry) wn rfl Tryz.underlying28 tf94 rfl rfl (SliceAt.mono (hl28.trans hl51) hs8) hx67 ?_
     intro b69 o70 u71 hu72 ha73
     obtain ⟨a76, n77, c78, rfl, hl74, hl75, hs79⟩ := hu72
     have ha80 : AtK _ b69 o70 [sv x66.Field, sv x66.Term, .slice a76 n77 c78] := ha73
     refine wl_val wn rfl (rv_fieldAddr ff94_2 rfl) ?_
     refine wl_val wn rfl (rv_load1 tf33 rfl hS53 (ha80 2 _ rfl)) ?_
     refine wl_val wn rfl (rv_len (t := tGPost) Tryz.underlying33 rfl hs79) ?_
     refine wl_val wn rfl (rv_lss rfl rfl) ?_
     refine vm rfl rfl ?_
     rcases bool_tf (decide (s46.2 < (x66.Posts.length : Int))) with hb81 | hb81
     ·have h82 := cond_t hb81 h68
      refine wl_val (wg rfl rfl hb81) rfl (rv_fieldAddr ff30_1 rfl) ?_
      refine wl_val (wg rfl rfl hb81) rfl (rv_loadm1 tf28 rfl (.head _) hS53 rfl) ?_
      refine wl_val (wg rfl rfl hb81) rfl (rv_move rfl) ?_
      obtain ⟨x83, hx84, h85⟩ := ob h82
      refine wl_indexAddr (t := tGEntry) (wg rfl rfl hb81) rfl Tryz.underlying28 tf94 rfl rfl (SliceAt.mono (hl28.trans hl51) hs8) hx84 ?_
      intro b86 o87 u88 hu89 ha90
      obtain ⟨a93, n94, c95, rfl, hl91, hl92, hs96⟩ := hu89
      have ha97 : AtK _ b86 o87 [sv x83.Field, sv x83.Term, .slice a93 n94 c95] := ha90
      refine wl_val (wg rfl rfl hb81) rfl (rv_fieldAddr ff94_0 rfl) ?_
      refine wl_val (wg rfl rfl hb81) rfl (rv_load1 tf9 rfl hS53 (ha97 0 _ rfl)) ?_
      refine wl_val (wg rfl rfl hb81) rfl (rv_move rfl) ?_
      refine wl_val (wg rfl rfl hb81) rfl (rv_seql rfl rfl) ?_
      refine wl_val wn rfl (rv_pick_t rfl hb81 rfl) ?_
      refine wl_nil ?_
      obtain rfl := oi h85
      exact qe_mid' ⟨K50, rfl, hS53, (KLe.refl _)⟩ ⟨rfl, rfl, rfl, rfl, rfl, rfl, rfl, trivial⟩
     ·have h82 := cond_f hb81 h68
      refine wl_un (ug rfl rfl hb81) rfl ?_
      refine wl_un (ug rfl rfl hb81) rfl ?_
      refine wl_un (ug rfl rfl hb81) rfl ?_
      refine wl_un (ug rfl rfl hb81) rfl ?_
      refine wl_un (ug rfl rfl hb81) rfl ?_
      refine wl_un (ug rfl rfl hb81) rfl ?_
      refine wl_un (ug rfl rfl hb81) rfl ?_
      refine wl_un (ug rfl rfl hb81) rfl ?_
      refine wl_val wn rfl (rv_pick_f (v := .bool false) rfl hb81 rfl) ?_
      refine wl_nil ?_
      obtain rfl := oi h82
      exact qe_mid' ⟨K50, rfl, hS53, (KLe.refl _)⟩ ⟨rfl, rfl, rfl, rfl, rfl, rfl, rfl, trivial⟩
    ·rintro _ w64 ⟨K62, rfl, hS65, hl63⟩
     refine qe_seq ?_
     refine wc_cond rfl (fun hb98 => ?_) (fun hb98 => ?_)
     ·have h99 := cond_t hb98 h61
      refine wc_skip ?_
      refine qs ?_
      refine wc_block ?_
      refine sr ?_
      refine wl_val wn rfl (rv_fieldAddr ff30_1 rfl) ?_
      refine wl_val wn rfl (rv_loadm1 tf28 rfl (.head _) hS65 rfl) ?_
      refine vm rfl rfl ?_
      obtain ⟨x100, hx101, h102⟩ := ob h99
      refine wl_indexAddr (t := tGEntry) wn rfl Tryz.underlying28 tf94 rfl rfl (SliceAt.mono ((hl28.trans hl51).trans hl63) hs8) hx101 ?_
      intro b103 o104 u105 hu106 ha107
      obtain ⟨a110, n111, c112, rfl, hl108, hl109, hs113⟩ := hu106
      have ha114 : AtK _ b103 o104 [sv x100.Field, sv x100.Term, .slice a110 n111 c112] := ha107
      refine wl_val wn rfl (rv_fieldAddr ff94_2 rfl) ?_
      refine wl_val wn rfl (rv_load1 tf33 rfl hS65 (ha114 2 _ rfl)) ?_
      refine vm rfl rfl ?_
      obtain ⟨x115, hx116, h117⟩ := ob h102
      refine wl_indexAddr (t := tGPost) wn rfl Tryz.underlying33 tf48 rfl rfl hs113 hx116 ?_
      intro b118 o119 u120 hu121 ha122
      obtain ⟨a124, n125, c126, rfl, hr123, hs127⟩ := hu121
      have ha128 : AtK _ b118 o119 [.int .i64 x115.Doc, .slice a124 n125 c126] := ha122
      refine wl_val wn rfl (rv_fieldAddr ff48_0 rfl) ?_
      refine wl_val wn rfl (rv_load1 tf3 rfl hS65 (ha128 0 _ rfl)) ?_
      refine vm rfl rfl ?_
      refine wl_val wn rfl (rv_eql rfl rfl) ?_
      refine nq ?_
      refine wc_cond rfl (fun hb129 => ?_) (fun hb129 => ?_)
      ·have h130 := cond_t hb129 h117
       refine wc_region ?_
       refine vm rfl rfl ?_
       refine wl_val wn rfl (rv_fieldAddr ff30_1 rfl) ?_
       refine wl_val wn rfl (rv_loadm1 tf28 rfl (.head _) hS65 rfl) ?_
       refine vm rfl rfl ?_
       obtain ⟨x131, hx132, h133⟩ := ob h130
       refine wl_indexAddr (t := tGEntry) wn rfl Tryz.underlying28 tf94 rfl rfl (SliceAt.mono ((hl28.trans hl51).trans hl63) hs8) hx132 ?_
       intro b134 o135 u136 hu137 ha138
       obtain ⟨a141, n142, c143, rfl, hl139, hl140, hs144⟩ := hu137
       have ha145 : AtK _ b134 o135 [sv x131.Field, sv x131.Term, .slice a141 n142 c143] := ha138
       refine wl_val wn rfl (rv_fieldAddr ff94_2 rfl) ?_
       refine wl_val wn rfl (rv_load1 tf33 rfl hS65 (ha145 2 _ rfl)) ?_
       refine vm rfl rfl ?_
       obtain ⟨x146, hx147, h148⟩ := ob h133
       refine wl_indexAddr (t := tGPost) wn rfl Tryz.underlying33 tf48 rfl rfl hs144 hx147 ?_
       intro b149 o150 u151 hu152 ha153
       obtain ⟨a155, n156, c157, rfl, hr154, hs158⟩ := hu152
       have ha159 : AtK _ b149 o150 [.int .i64 x146.Doc, .slice a155 n156 c157] := ha153
       refine wl_val wn rfl (rv_fieldAddr ff48_1 rfl) ?_
       refine wl_val wn rfl (rv_load1 tf37 rfl hS65 (ha159 1 _ rfl)) ?_
       refine wl_val wn rfl (rv_len (t := tInt) Tryz.underlying37 rfl hs158) ?_
       refine wl_val wn rfl (rv_add rfl rfl) ?_
       refine va rfl rfl ?_
       refine nb ?_
       refine qe_seq ?_
       refine wc_region ?_
       refine vm rfl rfl ?_
       refine wl_val wn rfl (rv_add rfl rfl) ?_
       refine va rfl rfl ?_
       refine wl_nil ?_
       obtain rfl := oi h148
       exact qe_mid' ⟨_, rfl, K62, rfl, hS65, (hl51.trans hl63), (w64_rng _), (w64_rng _)⟩ ⟨rfl, rfl, rfl, rfl, rfl, rfl, trivial⟩
      ·have h130 := cond_f hb129 h117
       refine wc_skip ?_
       refine qe_block ?_
       refine qe_seq ?_
       refine wc_region ?_
       refine vm rfl rfl ?_
       refine wl_val wn rfl (rv_add rfl rfl) ?_
       refine va rfl rfl ?_
       refine wl_nil ?_
       obtain rfl := oi h130
       exact qe_mid' ⟨_, rfl, K62, rfl, hS65, (hl51.trans hl63), hr54, (w64_rng _)⟩ ⟨rfl, rfl, rfl, rfl, rfl, rfl, trivial⟩
     ·have h99 := cond_f hb98 h61
      refine wc_exit ?_
      refine qe_then_exit ?_
      refine qe_then_exit ?_
      obtain rfl := oi h99
      have e160 := hx58 _ rfl
      subst e160
      refine qe_block_eq ?_
      obtain rfl := oi h49
      exact qe_mid' ⟨K62, rfl, hS65, (hl51.trans hl63), hr54⟩ ⟨rfl, rfl, rfl, rfl, rfl, trivial⟩
   ·rintro _ w43 ⟨K41, rfl, hS44, hl42, hr45⟩
    refine qe_block ?_
    refine qe_seq ?_
    refine wc_region ?_
    refine vm rfl rfl ?_
    refine wl_val wn rfl (rv_add rfl rfl) ?_
    refine va rfl rfl ?_
    refine wl_nil ?_
    obtain rfl := oi h40
    exact qe_mid' ⟨_, rfl, K41, rfl, hS44, (hl28.trans hl42), hr45, (w64_rng _)⟩ ⟨rfl, rfl, rfl, rfl, rfl, trivial⟩
  ·have h37 := cond_f hb36 h34
   refine wc_exit ?_
   refine qe_then_exit ?_
   refine qe_then_exit ?_
   obtain rfl := oi h37
   have e161 := hx35 _ rfl
   subst e161
   refine qe_block_eq ?_
   obtain rfl := oi h26
   have hS162 : SH _ _ _ _ _ [] := SH.sublist hS30 (.cons _ .slnil)
   exact qe_mid' ⟨K27, rfl, hS162, hl28, hr31⟩ ⟨rfl, trivial⟩
 ·rintro _ w20 ⟨K18, rfl, hS21, hl19, hr22⟩
  refine qr ?_
  refine vm rfl rfl ?_
  refine va rfl rfl ?_
  refine nq ?_
  refine wc_ret ?_
  obtain rfl := oi h17
  exact qe_ret (vs := [_]) Tryz.results87 ⟨rfl, trivial⟩ ⟨K18, rfl, hS21, hr22⟩

theorem ok_spec_SegLong (F : Nat) {w : World} {K : KMap} {a1 : Option Addr} {n2 c3 : Nat} {a5 : Option Addr} {n6 c7 : Nat} {a9 : Option Addr} {n10 c11 : Nat} {a13 : Option Addr} {n14 c15 : Nat} {p0_c : GConf} {p1_s : GSeg} {p2_field : Str} {p3_id : Int} {r : Int} (hS : SH w K [] w K []) (hs4 : SliceAt tStr K a1 n2 c3 p0_c.Stops) (hs8 : SliceAt tGSyn K a5 n6 c7 p0_c.Syns) (hs12 : SliceAt tGDoc K a9 n10 c11 p1_s.Docs) (hs16 : SliceAt tGEntry K a13 n14 c15 p1_s.Entries) (hl17 : p2_field.length ≤ maxLen) (hr18 : rng64 p3_id) (hm : M.spec_SegLong F p0_c p1_s p2_field p3_id = some r) :
  Calls Tryz.prog 33 #[.agg #[.slice a1 n2 c3, .slice a5 n6 c7], .agg #[.slice a9 n10 c11, .slice a13 n14 c15], sv p2_field, .int .i64 p3_id] w fun e w' => ∃ (K' : KMap), e = .returned (.int .i64 r) ∧ SH w K [] w' K' [] ∧ rng64 r := by
 rw [M.spec_SegLong] at hm
 refine calls_in Tryz.func33 rfl Tryz.ntmps33 rfl ?_
 refine sr ?_
 refine wl_box wn rfl rfl hS ?_
 intro g19 w20 hS21
 have hS22 : SH _ _ _ _ _ [obj g19 [.slice a1 n2 c3, .slice a5 n6 c7] 26] := hS21
 refine wl_box wn rfl rfl hS22 ?_
 intro g23 w24 hS25
 have hS26 : SH _ _ _ _ _ [obj g23 [.slice a9 n10 c11, .slice a13 n14 c15] 30, _] := hS25
 refine wl_val wn rfl (rv_assign (v := .int .i64 0) rfl) ?_
 refine nsr ?_
 refine wl_val wn rfl (rv_loadmS (ds := [.slice a1 n2 c3, .slice a5 n6 c7]) tf26 rfl (.tail _ (.head _)) hS26 rfl rfl) ?_
 refine wl_val wn rfl (rv_loadmS (ds := [.slice a9 n10 c11, .slice a13 n14 c15]) tf30 rfl (.head _) hS26 rfl rfl) ?_
 obtain ⟨r27, hx28, h29⟩ := ob hm
 refine wl_call wn rfl (rt_call (vs := [.agg #[.slice a1 n2 c3, .slice a5 n6 c7], .agg #[.slice a9 n10 c11, .slice a13 n14 c15]]) co48 rfl) ((ok_spec_l7Ok F) hS26.enter0 hs4 hs8 hs12 hs16 hx28) ?_
 rintro e33 w31 ⟨K30, rfl, hS32⟩
 refine ⟨_, rfl, ?_⟩
 have hS34 : SH _ _ _ _ _ [_, _] := SH.call0 hS26 hS32
 refine wl_val wn rfl (rv_not rfl) ?_
 refine nq ?_
 refine wc_cond rfl (fun hb35 => ?_) (fun hb35 => ?_)
 ·have h36 := cond_t hb35 h29
  refine sr ?_
  refine wl_val wn rfl (rv_assign (v := .int .i64 (-1)) rfl) ?_
  refine nq ?_
  refine rr ?_
  obtain rfl := oi h36
  have hS37 : SH _ _ _ _ _ [] := SH.sublist hS34 (.cons _ (.cons _ .slnil))
  exact qe_ret (vs := [_]) Tryz.results33 ⟨rfl, trivial⟩ ⟨K30, rfl, hS37, (by decide : rng64 (-1))⟩
 ·have h36 := cond_f hb35 h29
  refine wc_skip ?_
  refine qr ?_
  refine wl_val wn rfl (rv_loadmS (ds := [.slice a9 n10 c11, .slice a13 n14 c15]) tf30 rfl (.head _) hS34 rfl rfl) ?_
  refine vm rfl rfl ?_
  refine vm rfl rfl ?_
  obtain ⟨r38, hx39, h40⟩ := ob h36
  refine wl_call wn rfl (rt_call (vs := [.agg #[.slice a9 n10 c11, .slice a13 n14 c15], sv p2_field, .int .i64 p3_id]) co87 rfl) ((ok_spec_l7Long F) hS34.enter0 (SliceAt.mono hS32.le hs12) (SliceAt.mono hS32.le hs16) hl17 hr18 hx39) ?_
  rintro e45 w42 ⟨K41, rfl, hS43, hr44⟩
  refine ⟨_, rfl, ?_⟩
  have hS46 : SH _ _ _ _ _ [_, _] := SH.call0 hS34 hS43
  refine va rfl rfl ?_
  refine nq ?_
  refine wc_ret ?_
  obtain rfl := oi h40
  have hS47 : SH _ _ _ _ _ [] := SH.sublist hS46 (.cons _ (.cons _ .slnil))
  exact qe_ret (vs := [_]) Tryz.results33 ⟨rfl, trivial⟩ ⟨K41, rfl, hS47, hr44⟩

theorem ok_impl_within (F : Nat) {w : World} {K : KMap} {p0_n : Int} {p1_low : Int} {p2_high : Int} {r : Bool} (hS : SH w K [] w K []) (hr1 : rng64 p0_n) (hr2 : rng64 p1_low) (hr3 : rng64 p2_high) (hm : M.impl_within F p0_n p1_low p2_high = some r) :
  Calls Tryz.prog 98 #[.int .i64 p0_n, .int .i64 p1_low, .int .i64 p2_high] w fun e w' => ∃ (K' : KMap), e = .returned (.bool r) ∧ SH w K [] w' K' [] := by
 rw [M.impl_within] at hm
 refine calls_in Tryz.func98 rfl Tryz.ntmps98 rfl ?_
 refine sr ?_
 refine wl_val wn rfl (rv_assign (v := .bool false) rfl) ?_
 refine nr ?_
 refine vm rfl rfl ?_
 refine vm rfl rfl ?_
 refine wl_val wn rfl (rv_geq rfl rfl) ?_
 refine vm rfl rfl ?_
 rcases bool_tf (decide (p1_low ≤ p0_n)) with hb4 | hb4
 ·have h5 := cond_t hb4 hm
  refine wl_val (wg rfl rfl hb4) rfl (rv_move rfl) ?_
  refine wl_val (wg rfl rfl hb4) rfl (rv_move rfl) ?_
  refine wl_val (wg rfl rfl hb4) rfl (rv_leq rfl rfl) ?_
  refine wl_val wn rfl (rv_pick_t rfl hb4 rfl) ?_
  refine va rfl rfl ?_
  refine nq ?_
  refine wc_ret ?_
  obtain rfl := oi h5
  exact qe_ret (vs := [_]) Tryz.results98 ⟨rfl, trivial⟩ ⟨K, rfl, hS⟩
 ·have h5 := cond_f hb4 hm
  refine wl_un (ug rfl rfl hb4) rfl ?_
  refine wl_un (ug rfl rfl hb4) rfl ?_
  refine wl_un (ug rfl rfl hb4) rfl ?_
  refine wl_val wn rfl (rv_pick_f (v := .bool false) rfl hb4 rfl) ?_
  refine va rfl rfl ?_
  refine nq ?_
  refine wc_ret ?_
  obtain rfl := oi h5
  exact qe_ret (vs := [_]) Tryz.results98 ⟨rfl, trivial⟩ ⟨K, rfl, hS⟩

theorem ok_impl_wordByte (F : Nat) {w : World} {K : KMap} {p0_b : UInt8} {r : Bool} (hS : SH w K [] w K []) (hm : M.impl_wordByte F p0_b = some r) :
  Calls Tryz.prog 102 #[iv8 p0_b] w fun e w' => ∃ (K' : KMap), e = .returned (.bool r) ∧ SH w K [] w' K' [] := by
 rw [M.impl_wordByte] at hm
 refine calls_in Tryz.func102 rfl Tryz.ntmps102 rfl ?_
 refine sr ?_
 refine wl_val wn rfl (rv_assign (v := .bool false) rfl) ?_
 refine nr ?_
 refine vm rfl rfl ?_
 refine wl_val wn rfl (rv_bge (b := (97 : UInt8)) rfl rfl) ?_
 refine vm rfl rfl ?_
 rcases bool_tf (decide ((97 : UInt8) ≤ p0_b)) with hb1 | hb1
 ·have h2 := cond_t hb1 hm
  refine wl_val (wg rfl rfl hb1) rfl (rv_move rfl) ?_
  refine wl_val (wg rfl rfl hb1) rfl (rv_ble (b := (122 : UInt8)) rfl rfl) ?_
  refine wl_val wn rfl (rv_pick_t rfl hb1 rfl) ?_
  refine vm rfl rfl ?_
  rcases bool_tf (decide (p0_b ≤ (122 : UInt8))) with hb3 | hb3
  ·have h4 := cond_t hb3 h2
   refine wl_un (ug rfl rfl hb3) rfl ?_
   refine wl_un (ug rfl rfl hb3) rfl ?_
   refine wl_un (ug rfl rfl hb3) rfl ?_
   refine wl_un (uu rfl rfl) rfl ?_
   refine wl_un (uu rfl rfl) rfl ?_
   refine wl_un (ug rfl rfl hb3) rfl ?_
   refine wl_val wn rfl (rv_pick_t (v := .bool true) rfl hb3 rfl) ?_
   refine va rfl rfl ?_
   refine nq ?_
   refine wc_ret ?_
   obtain rfl := oi h4
   exact qe_ret (vs := [_]) Tryz.results102 ⟨rfl, trivial⟩ ⟨K, rfl, hS⟩
  ·have h4 := cond_f hb3 h2
   refine wl_val (wg rfl rfl hb3) rfl (rv_move rfl) ?_
   refine wl_val (wg rfl rfl hb3) rfl (rv_bge (b := (48 : UInt8)) rfl rfl) ?_
   refine wl_val (wg rfl rfl hb3) rfl (rv_move rfl) ?_
   rcases bool_tf (decide ((48 : UInt8) ≤ p0_b)) with hb5 | hb5
   ·have h6 := cond_t hb5 h4
    refine wl_val (wg rfl rfl hb5) rfl (rv_move rfl) ?_
    refine wl_val (wg rfl rfl hb5) rfl (rv_ble (b := (57 : UInt8)) rfl rfl) ?_
    refine wl_val (wg rfl rfl hb3) rfl (rv_pick_t rfl hb5 rfl) ?_
    refine wl_val wn rfl (rv_pick_f rfl hb3 rfl) ?_
    refine va rfl rfl ?_
    refine nq ?_
    refine wc_ret ?_
    obtain rfl := oi h6
    exact qe_ret (vs := [_]) Tryz.results102 ⟨rfl, trivial⟩ ⟨K, rfl, hS⟩
   ·have h6 := cond_f hb5 h4
    refine wl_un (ug rfl rfl hb5) rfl ?_
    refine wl_un (ug rfl rfl hb5) rfl ?_
    refine wl_val (wg rfl rfl hb3) rfl (rv_pick_f (v := .bool false) rfl hb5 rfl) ?_
    refine wl_val wn rfl (rv_pick_f rfl hb3 rfl) ?_
    refine va rfl rfl ?_
    refine nq ?_
    refine wc_ret ?_
    obtain rfl := oi h6
    exact qe_ret (vs := [_]) Tryz.results102 ⟨rfl, trivial⟩ ⟨K, rfl, hS⟩
 ·have h2 := cond_f hb1 hm
  refine wl_un (ug rfl rfl hb1) rfl ?_
  refine wl_un (ug rfl rfl hb1) rfl ?_
  refine wl_val wn rfl (rv_pick_f (v := .bool false) rfl hb1 rfl) ?_
  refine vm rfl rfl ?_
  refine wl_val (wg rfl rfl rfl) rfl (rv_move rfl) ?_
  refine wl_val (wg rfl rfl rfl) rfl (rv_bge (b := (48 : UInt8)) rfl rfl) ?_
  refine wl_val (wg rfl rfl rfl) rfl (rv_move rfl) ?_
  rcases bool_tf (decide ((48 : UInt8) ≤ p0_b)) with hb7 | hb7
  ·have h8 := cond_t hb7 h2
   refine wl_val (wg rfl rfl hb7) rfl (rv_move rfl) ?_
   refine wl_val (wg rfl rfl hb7) rfl (rv_ble (b := (57 : UInt8)) rfl rfl) ?_
   refine wl_val (wg rfl rfl rfl) rfl (rv_pick_t rfl hb7 rfl) ?_
   refine wl_val wn rfl (rv_pick_f rfl rfl rfl) ?_
   refine va rfl rfl ?_
   refine nq ?_
   refine wc_ret ?_
   obtain rfl := oi h8
   exact qe_ret (vs := [_]) Tryz.results102 ⟨rfl, trivial⟩ ⟨K, rfl, hS⟩
  ·have h8 := cond_f hb7 h2
   refine wl_un (ug rfl rfl hb7) rfl ?_
   refine wl_un (ug rfl rfl hb7) rfl ?_
   refine wl_val (wg rfl rfl rfl) rfl (rv_pick_f (v := .bool false) rfl hb7 rfl) ?_
   refine wl_val wn rfl (rv_pick_f rfl rfl rfl) ?_
   refine va rfl rfl ?_
   refine nq ?_
   refine wc_ret ?_
   obtain rfl := oi h8
   exact qe_ret (vs := [_]) Tryz.results102 ⟨rfl, trivial⟩ ⟨K, rfl, hS⟩

theorem ok_impl_WordOk (F : Nat) {w : World} {K : KMap} {p0_s : Str} {r : Bool} (hS : SH w K [] w K []) (hl1 : p0_s.length ≤ maxLen) (hm : M.impl_WordOk F p0_s = some r) :
  Calls Tryz.prog 99 #[sv p0_s] w fun e w' => ∃ (K' : KMap), e = .returned (.bool r) ∧ SH w K [] w' K' [] := by
 rw [M.impl_WordOk] at hm
 refine calls_in Tryz.func99 rfl Tryz.ntmps99 rfl ?_
 refine sr ?_
 refine wl_val wn rfl (rv_assign (v := .bool false) rfl) ?_
 refine nsr ?_
 refine vm rfl rfl ?_
 refine wl_val wn rfl (rv_slen Tryz.underlying9 rfl) ?_
 refine wl_val wn rfl (rv_move (v := .int .i64 0) rfl) ?_
 refine nq ?_
 obtain ⟨o2, h3, h4⟩ := ob hm
 refine wc_cutg (fun E' w' => ∃ (s5 : Unit) (K6 : KMap), o2 = .inl s5 ∧ E' = [(0, sv p0_s)] ∧ SH w K [] w' K6 [] ∧ KLe K K6) ?_ ?_
 ·refine wc_block ?_
  obtain ⟨r11, h12, h13⟩ := ob h3
  refine wc_for' (fun (i14 : Nat) (s10 : Unit) E' w' => ∃ (K15 : KMap), E' = [(0, sv p0_s), (5, .int .i64 (p0_s.length : Int)), (6, .int .i64 ((i14 : Nat) : Int))] ∧ SH w K [] w' K15 [] ∧ KLe K K15) h12 ⟨K, rfl, hS, (KLe.refl _)⟩ ⟨rfl, rfl, rfl, trivial⟩ ?_ ?_
  ·rintro i14 s10 _ w17 r19 hi20 h21 hx22 ⟨K15, rfl, hS18, hl16⟩
   refine sr ?_
   refine wl_val wn rfl (rv_lss rfl rfl) ?_
   refine ns ?_
   refine wc_cond_t rfl (decide_eq_true (by omega)) (wc_skip (qe_seq (wc_seq ?_)))
   refine wc_block ?_
   refine sr ?_
   refine vm rfl rfl ?_
   refine va rfl rfl ?_
   refine nr ?_
   refine vm rfl rfl ?_
   refine vm rfl rfl ?_
   obtain ⟨x23, hx24, h25⟩ := ob h21
   refine wl_val wn rfl (rv_sidx Tryz.underlying9 rfl rfl hx24) ?_
   obtain ⟨r26, hx27, h28⟩ := ob h25
   refine wl_call wn rfl (rt_call (vs := [iv8 x23]) co102 rfl) ((ok_impl_wordByte F) hS18.enter0  hx27) ?_
   rintro e32 w30 ⟨K29, rfl, hS31⟩
   refine ⟨_, rfl, ?_⟩
   have hS33 : SH _ _ _ _ _ [] := SH.call0 hS18 hS31
   refine wl_val wn rfl (rv_not rfl) ?_
   refine nq ?_
   refine wc_cond rfl (fun hb34 => ?_) (fun hb34 => ?_)
   ·have h35 := cond_t hb34 h28
    refine sr ?_
    refine wl_val wn rfl (rv_assign (v := .bool false) rfl) ?_
    refine nq ?_
    refine wc_ret ?_
    refine qe_block_ret ?_
    refine qe_then_ret ?_
    refine qe_then_ret ?_
    obtain rfl := oi h35
    have e36 := hx22 _ rfl
    subst e36
    refine qe_block_ret ?_
    refine qe_then_ret ?_
    obtain rfl := oi h13
    refine qe_then_ret ?_
    obtain rfl := oi h4
    exact qe_ret (vs := [_]) Tryz.results99 ⟨rfl, trivial⟩ ⟨K29, rfl, hS33⟩
   ·have h35 := cond_f hb34 h28
    refine wc_skip ?_
    refine qe_block ?_
    refine qg ?_
    refine wl_val wn rfl (rv_add_to rfl rfl (w64_succ hi20 hl1)) ?_
    refine vm rfl rfl ?_
    refine wl_nil ?_
    obtain rfl := oi h35
    exact qe_mid' ⟨_, rfl, K29, rfl, hS33, (hl16.trans hS31.le)⟩ ⟨rfl, rfl, rfl, trivial⟩
  ·rintro s10 _ w17 hr37 ⟨K15, rfl, hS18, hl16⟩
   subst hr37
   refine sr ?_
   refine wl_val wn rfl (rv_lss rfl rfl) ?_
   refine ns ?_
   refine wc_cond_f rfl (decide_eq_false (by omega)) ?_
   refine wc_exit ?_
   refine qe_then_exit ?_
   refine qe_then_exit ?_
   refine qe_block_eq ?_
   obtain rfl := oi h13
   exact qe_mid' ⟨_, K15, rfl, rfl, hS18, hl16⟩ ⟨rfl, trivial⟩
 ·rintro _ w8 ⟨s5, K6, rfl, rfl, hS9, hl7⟩
  refine qr ?_
  refine vm rfl rfl ?_
  refine wl_val wn rfl (rv_slen Tryz.underlying9 rfl) ?_
  obtain ⟨r39, hx40, h41⟩ := ob h4
  refine wl_call wn rfl (rt_call (vs := [.int .i64 (p0_s.length : Int), .int .i64 1, .int .i64 12]) co98 rfl) ((ok_impl_within F) hS9.enter0 (rng_nat hl1) (by decide : rng64 1) (by decide : rng64 12) hx40) ?_
  rintro e45 w43 ⟨K42, rfl, hS44⟩
  refine ⟨_, rfl, ?_⟩
  have hS46 : SH _ _ _ _ _ [] := SH.call0 hS9 hS44
  refine va rfl rfl ?_
  refine nq ?_
  refine wc_ret ?_
  obtain rfl := oi h41
  exact qe_ret (vs := [_]) Tryz.results99 ⟨rfl, trivial⟩ ⟨K42, rfl, hS46⟩
end Go.Proofs.YtdcmmhjhffcnhaaGreat
