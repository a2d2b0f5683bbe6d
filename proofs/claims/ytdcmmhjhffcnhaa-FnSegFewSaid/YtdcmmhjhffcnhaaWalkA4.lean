/-
 Walks of the functions. Printed by gen.py.
-/
import Derived.Test.YtdcmmhjhffcnhaaWalkA3
set_option linter.unusedVariables false
set_option maxRecDepth 100000
namespace Go.Proofs.Ytdcmmhjhffcnhaa
open Go Go.Fk Go.RowKit

theorem ok_spec_l6Field (F : Nat) {w : World} {K : KMap} {a2 : Option Addr} {n3 c4 : Nat} {a6 : Option Addr} {n7 c8 : Nat} {p0_d : GDoc} {p1_name : Str} {r : Str} (hS : SH w K [] w K []) (hr1 : rng64 p0_d.Id) (hs5 : SliceAt tGField K a2 n3 c4 p0_d.Fields) (hs9 : SliceAt tGAttr K a6 n7 c8 p0_d.Nums) (hl10 : p1_name.length ≤ maxLen) (hm : M.spec_l6Field F p0_d p1_name = some r) :
  Calls Try.prog 140 #[.agg #[.int .i64 p0_d.Id, .slice a2 n3 c4, .slice a6 n7 c8], sv p1_name] w fun e w' => ∃ (K' : KMap), e = .returned (sv r) ∧ SH w K [] w' K' [] ∧ r.length ≤ maxLen := by
 rw [M.spec_l6Field] at hm
 refine calls_in Try.func140 rfl Try.ntmps140 rfl ?_
 refine sr ?_
 refine wl_box wn rfl rfl hS ?_
 intro g11 w12 hS13
 have hS14 : SH _ _ _ _ _ [obj g11 [.int .i64 p0_d.Id, .slice a2 n3 c4, .slice a6 n7 c8] 49] := hS13
 refine wl_val wn rfl (rv_assign (v := sv []) rfl) ?_
 refine nsr ?_
 refine wl_val wn rfl (rv_assign (v := .int .i64 0) rfl) ?_
 refine nq ?_
 obtain ⟨o15, h16, h17⟩ := ob hm
 refine wc_cutg (fun E' w' => ∃ (s18 : Unit) (K19 : KMap), o15 = .inl s18 ∧ E' = [] ∧ SH w K [] w' K19 [] ∧ KLe K K19) ?_ ?_
 ·refine wc_block ?_
  obtain ⟨r24, h25, h26⟩ := ob h16
  refine wc_while' (fun (s23 : Int) E' w' => ∃ (K27 : KMap), E' = [(1, sv p1_name), (2, .pointer (some ⟨g11, 0, none⟩)), (5, .int .i64 s23)] ∧ SH w K [] w' K27 [obj g11 [.int .i64 p0_d.Id, .slice a2 n3 c4, .slice a6 n7 c8] 49] ∧ KLe K K27 ∧ rng64 s23) h25 ⟨K, rfl, hS14, (KLe.refl _), (by decide : rng64 0)⟩ ⟨rfl, rfl, rfl, trivial⟩ ?_
  rintro s23 _ w29 r32 h33 hx34 ⟨K27, rfl, hS30, hl28, hr31⟩
  refine wc_seq ?_
  refine sr ?_
  refine vm rfl rfl ?_
  refine wl_val wn rfl (rv_fieldAddr ff49_1 rfl) ?_
  refine wl_val wn rfl (rv_loadm1 tf46 rfl (.head _) hS30 rfl) ?_
  refine wl_val wn rfl (rv_len (t := tGField) Try.underlying46 rfl (SliceAt.mono hl28 hs5)) ?_
  refine wl_val wn rfl (rv_lss rfl rfl) ?_
  refine nq ?_
  refine wc_cond rfl (fun hb35 => ?_) (fun hb35 => ?_)
  ·have h36 := cond_t hb35 h33
   refine wc_skip ?_
   refine qs ?_
   refine wc_block ?_
   refine sr ?_
   refine wl_val wn rfl (rv_fieldAddr ff49_1 rfl) ?_
   refine wl_val wn rfl (rv_loadm1 tf46 rfl (.head _) hS30 rfl) ?_
   refine vm rfl rfl ?_
   obtain ⟨x37, hx38, h39⟩ := ob h36
   refine wl_indexAddr (t := tGField) wn rfl Try.underlying46 tf107 rfl rfl (SliceAt.mono hl28 hs5) hx38 ?_
   intro b40 o41 u42 hu43 ha44
   obtain ⟨rfl, hl45, hl46⟩ := hu43
   have ha47 : AtK _ b40 o41 [sv x37.Name, sv x37.Text] := ha44
   refine wl_val wn rfl (rv_fieldAddr ff107_0 rfl) ?_
   refine wl_val wn rfl (rv_load1 tf9 rfl hS30 (ha47 0 _ rfl)) ?_
   refine vm rfl rfl ?_
   refine wl_val wn rfl (rv_seql rfl rfl) ?_
   refine nq ?_
   refine wc_cond rfl (fun hb48 => ?_) (fun hb48 => ?_)
   ·have h49 := cond_t hb48 h39
    refine sr ?_
    refine wl_val wn rfl (rv_fieldAddr ff49_1 rfl) ?_
    refine wl_val wn rfl (rv_loadm1 tf46 rfl (.head _) hS30 rfl) ?_
    refine vm rfl rfl ?_
    obtain ⟨x50, hx51, h52⟩ := ob h49
    refine wl_indexAddr (t := tGField) wn rfl Try.underlying46 tf107 rfl rfl (SliceAt.mono hl28 hs5) hx51 ?_
    intro b53 o54 u55 hu56 ha57
    obtain ⟨rfl, hl58, hl59⟩ := hu56
    have ha60 : AtK _ b53 o54 [sv x50.Name, sv x50.Text] := ha57
    refine wl_val wn rfl (rv_fieldAddr ff107_1 rfl) ?_
    refine wl_val wn rfl (rv_load1 tf9 rfl hS30 (ha60 1 _ rfl)) ?_
    refine va rfl rfl ?_
    refine nq ?_
    refine wc_ret ?_
    refine qe_block_ret ?_
    refine qe_then_ret ?_
    refine qe_then_ret ?_
    obtain rfl := oi h52
    have e61 := hx34 _ rfl
    subst e61
    refine qe_block_ret ?_
    refine qe_then_ret ?_
    obtain rfl := oi h26
    refine qe_then_ret ?_
    obtain rfl := oi h17
    have hS62 : SH _ _ _ _ _ [] := SH.sublist hS30 (.cons _ .slnil)
    exact qe_ret (vs := [_]) Try.results140 ⟨rfl, trivial⟩ ⟨K27, rfl, hS62, hl59⟩
   ·have h49 := cond_f hb48 h39
    refine wc_skip ?_
    refine qe_block ?_
    refine qe_seq ?_
    refine wc_region ?_
    refine vm rfl rfl ?_
    refine wl_val wn rfl (rv_add rfl rfl) ?_
    refine va rfl rfl ?_
    refine wl_nil ?_
    obtain rfl := oi h49
    exact qe_mid' ⟨_, rfl, K27, rfl, hS30, hl28, (w64_rng _)⟩ ⟨rfl, rfl, rfl, trivial⟩
  ·have h36 := cond_f hb35 h33
   refine wc_exit ?_
   refine qe_then_exit ?_
   refine qe_then_exit ?_
   obtain rfl := oi h36
   have e63 := hx34 _ rfl
   subst e63
   refine qe_block_eq ?_
   obtain rfl := oi h26
   have hS64 : SH _ _ _ _ _ [] := SH.sublist hS30 (.cons _ .slnil)
   exact qe_mid' ⟨_, K27, rfl, rfl, hS64, hl28⟩ trivial
 ·rintro _ w21 ⟨s18, K19, rfl, rfl, hS22, hl20⟩
  refine qr ?_
  refine wl_val wn rfl (rv_assign (v := sv []) rfl) ?_
  refine nq ?_
  refine wc_ret ?_
  obtain rfl := oi h17
  exact qe_ret (vs := [_]) Try.results140 ⟨rfl, trivial⟩ ⟨K19, rfl, hS22, (by decide : ([] : Str).length ≤ maxLen)⟩

set_option maxHeartbeats 2000000 in
theorem ok_spec_l7Terms (F : Nat) {w : World} {K : KMap} {a1 : Option Addr} {n2 c3 : Nat} {a5 : Option Addr} {n6 c7 : Nat} {a9 : Option Addr} {n10 c11 : Nat} {p0_c : GConf} {p1_docs : List GDoc} {p2_field : Str} {r : (List Str)} (hS : SH w K [] w K []) (hs4 : SliceAt tStr K a1 n2 c3 p0_c.Stops) (hs8 : SliceAt tGSyn K a5 n6 c7 p0_c.Syns) (hs12 : SliceAt tGDoc K a9 n10 c11 p1_docs) (hl13 : p2_field.length ≤ maxLen) (hm : M.spec_l7Terms F p0_c p1_docs p2_field = some r) :
  Calls Try.prog 106 #[.agg #[.slice a1 n2 c3, .slice a5 n6 c7], .slice a9 n10 c11, sv p2_field] w fun e w' => ∃ (a_1 : Option Addr) (n_2 c_3 : Nat) (K' : KMap), e = .returned (.slice a_1 n_2 c_3) ∧ SH w K [] w' K' [tail (.slice a_1 n_2 c_3) 9 1] ∧ SliceAt tStr K' a_1 n_2 c_3 r := by
 rw [M.spec_l7Terms] at hm
 refine calls_in Try.func106 rfl Try.ntmps106 rfl ?_
 refine sr ?_
 refine wl_box wn rfl rfl hS ?_
 intro g14 w15 hS16
 have hS17 : SH _ _ _ _ _ [obj g14 [.slice a1 n2 c3, .slice a5 n6 c7] 39] := hS16
 refine wl_val wn rfl (rv_assign (v := .slice none 0 0) rfl) ?_
 refine nr ?_
 refine wl_buildSlice0 tStr wn rfl Try.underlying36 tf9 hS17 ?_
 intro a18 w19 K20 hl21 hs22 hS23
 refine va rfl rfl ?_
 refine nsr ?_
 refine wl_val wn rfl (rv_assign (v := .int .i64 0) rfl) ?_
 refine nq ?_
 obtain ⟨o24, h25, h26⟩ := ob hm
 refine wc_cutg (fun E' w' => ∃ (a31 : Option Addr) (n32 c33 : Nat) (K27 : KMap), E' = [(7, .slice a31 n32 c33)] ∧ SH w K [] w' K27 [tail (.slice a31 n32 c33) 9 1] ∧ KLe K20 K27 ∧ SliceAt tStr K27 a31 n32 c33 o24) ?_ ?_
 ·refine wc_block ?_
  obtain ⟨r36, h37, h38⟩ := ob h25
  have hS48 : SH _ _ _ _ _ [_, _] := SH.front (p := [_]) hS23
  refine wc_while' (fun (s35 : (List Str) × Int) E' w' => ∃ (a43 : Option Addr) (n44 c45 : Nat) (K39 : KMap), E' = [(1, .slice a9 n10 c11), (2, sv p2_field), (3, .pointer (some ⟨g14, 0, none⟩)), (7, .slice a43 n44 c45), (8, .int .i64 s35.2)] ∧ SH w K [] w' K39 [obj g14 [.slice a1 n2 c3, .slice a5 n6 c7] 39, tail (.slice a43 n44 c45) 9 1] ∧ KLe K20 K39 ∧ SliceAt tStr K39 a43 n44 c45 s35.1 ∧ rng64 s35.2) h37 ⟨a18, 0, 0, K20, rfl, hS48, (KLe.refl _), hs22, (by decide : rng64 0)⟩ ⟨rfl, rfl, rfl, rfl, rfl, trivial⟩ ?_
  rintro s35 _ w41 r49 h50 hx51 ⟨a43, n44, c45, K39, rfl, hS42, hl40, hs46, hr47⟩
  refine wc_seq ?_
  refine sr ?_
  refine vm rfl rfl ?_
  refine vm rfl rfl ?_
  refine wl_val wn rfl (rv_len (t := tGDoc) Try.underlying23 rfl (SliceAt.mono (hl21.trans hl40) hs12)) ?_
  refine wl_val wn rfl (rv_lss rfl rfl) ?_
  refine nq ?_
  refine wc_cond rfl (fun hb52 => ?_) (fun hb52 => ?_)
  ·have h53 := cond_t hb52 h50
   refine wc_skip ?_
   refine qs ?_
   refine wc_block ?_
   refine wc_seq ?_
   refine wc_held (fun w' => Holds K39 w' ∧ HasObj g14 [.slice a1 n2 c3, .slice a5 n6 c7] w') (fun w' => True) 9 [] mixed ?_
   have hS55 := SH.drew hS42
   refine wg_val (i := 0) (listed' := #[true, false, false, false, false, false, false, false, false]) (HasObj g14 [.slice a1 n2 c3, .slice a5 n6 c7]) rfl (by kernel_rfl) (pk_then (pk_block (pk_then (pk_then (pk_block (pk_then (pk_then pk_body))))))) (by kernel_rfl) rfl (by kernel_rfl) (by kernel_rfl) rfl (.inl fun _ h => h.2) ⟨⟨hS55.hasK (KLe.refl _), hS55.hasObj (.head _)⟩, (fun _ => trivial), by decide⟩ wn rfl (fun _ h => rh_loadmS (ds := [.slice a1 n2 c3, .slice a5 n6 c7]) tf39 rfl rfl rfl h) ?_
   refine wg_val (i := 1) (listed' := #[true, true, false, false, false, false, false, false, false]) (fun _ => True) rfl (by kernel_rfl) (pk_then (pk_block (pk_then (pk_then (pk_block (pk_then (pk_then pk_body))))))) (by kernel_rfl) rfl (by kernel_rfl) (by kernel_rfl) rfl (.inl fun _ _ => trivial) ⟨⟨hS55.hasK (KLe.refl _), hS55.hasObj (.head _)⟩, (fun _ => trivial), by decide⟩ wn rfl (fun _ _ => (rv_move rfl)) ?_
   refine wg_val (i := 2) (listed' := #[true, true, true, false, false, false, false, false, false]) (fun _ => True) rfl (by kernel_rfl) (pk_then (pk_block (pk_then (pk_then (pk_block (pk_then (pk_then pk_body))))))) (by kernel_rfl) rfl (by kernel_rfl) (by kernel_rfl) rfl (.inl fun _ _ => trivial) ⟨⟨hS55.hasK (KLe.refl _), hS55.hasObj (.head _)⟩, (fun _ => trivial), by decide⟩ wn rfl (fun _ _ => (rv_move rfl)) ?_
   obtain ⟨x56, hx57, h58⟩ := ob h53
   refine wg_indexAddr (t := tGDoc) (j := 3) (listed' := #[true, true, true, true, false, false, false, false, false]) rfl (by kernel_rfl) (pk_then (pk_block (pk_then (pk_then (pk_block (pk_then (pk_then pk_body))))))) (by kernel_rfl) rfl (by kernel_rfl) (by kernel_rfl) rfl ⟨⟨hS55.hasK (KLe.refl _), hS55.hasObj (.head _)⟩, (fun _ => trivial), by decide⟩ wn rfl Try.underlying23 tf49 rfl rfl (SliceAt.mono (hl21.trans hl40) hs12) hx57 ?_
   intro b59 o60 u61 hu62 ha63
   obtain ⟨a65, n66, c67, a69, n70, c71, rfl, hr64, hs68, hs72⟩ := hu62
   have ha73 : AtK _ b59 o60 [.int .i64 x56.Id, .slice a65 n66 c67, .slice a69 n70 c71] := ha63
   refine wg_val (i := 4) (listed' := #[true, true, true, true, true, false, false, false, false]) (Holds K39) rfl (by kernel_rfl) (pk_then (pk_block (pk_then (pk_then (pk_block (pk_then (pk_then pk_body))))))) (by kernel_rfl) rfl (by kernel_rfl) (by kernel_rfl) rfl (.inl fun _ h => h.1) ⟨⟨hS55.hasK (KLe.refl _), hS55.hasObj (.head _)⟩, (fun _ => trivial), by decide⟩ wn rfl (fun _ h => rh_loadS (cs := [.int .i64 x56.Id, .slice a65 n66 c67, .slice a69 n70 c71]) tf49 rfl ha73 rfl h) ?_
   refine wg_val (i := 5) (listed' := #[true, true, true, true, true, true, false, false, false]) (fun _ => True) rfl (by kernel_rfl) (pk_then (pk_block (pk_then (pk_then (pk_block (pk_then (pk_then pk_body))))))) (by kernel_rfl) rfl (by kernel_rfl) (by kernel_rfl) rfl (.inl fun _ _ => trivial) ⟨⟨hS55.hasK (KLe.refl _), hS55.hasObj (.head _)⟩, (fun _ => trivial), by decide⟩ wn rfl (fun _ _ => (rv_move rfl)) ?_
   refine wg_one (i := 6) (by kernel_rfl) rfl ?_
   obtain ⟨r74, hx75, h76⟩ := ob h58
   refine wl_call wn rfl (rt_call (vs := [.agg #[.int .i64 x56.Id, .slice a65 n66 c67, .slice a69 n70 c71], sv p2_field]) co140 rfl) ((ok_spec_l6Field F) hS55.enter0 hr64 hs68 hs72 hl13 hx75) ?_
   rintro e81 w78 ⟨K77, rfl, hS79, hl80⟩
   refine ⟨_, rfl, ?_⟩
   have hS82 : SH _ _ _ _ _ [_, _] := SH.call0 hS55 hS79
   refine wl_nil (qe_held (listed' := #[true, true, true, true, true, true, true, false, false]) rfl ⟨⟨hS82.hasK hS79.le, hS82.hasObj (.head _)⟩, (fun _ => trivial), by decide⟩ ?_)
   refine wg_one (i := 7) (by kernel_rfl) rfl ?_
   obtain ⟨r83, hx84, h85⟩ := ob h76
   refine wl_call wn rfl (rt_call (vs := [.agg #[.slice a1 n2 c3, .slice a5 n6 c7], sv r74]) co139 rfl) ((ok_spec_l2Terms F) hS82.enter0 (SliceAt.mono ((hl21.trans hl40).trans hS79.le) hs4) (SliceAt.mono ((hl21.trans hl40).trans hS79.le) hs8) hl80 hx84) ?_
   rintro e93 w87 ⟨a89, n90, c91, K86, rfl, hS88, hs92⟩
   refine ⟨_, rfl, ?_⟩
   have hS94 : SH _ _ _ _ _ [_, _, _] := SH.call0 hS82 hS88
   refine wl_nil (qe_held (listed' := #[true, true, true, true, true, true, true, true, false]) rfl ⟨⟨hS94.hasK (hS79.le.trans hS88.le), hS94.hasObj (.tail _ (.head _))⟩, (fun _ => trivial), by decide⟩ ?_)
   refine wg_val (i := 8) (listed' := #[true, true, true, true, true, true, true, true, true]) (fun _ => True) rfl (by kernel_rfl) (pk_then (pk_block (pk_then (pk_then (pk_block (pk_then (pk_then pk_body))))))) (by kernel_rfl) rfl (by kernel_rfl) (by kernel_rfl) rfl (.inl fun _ _ => trivial) ⟨⟨hS94.hasK (hS79.le.trans hS88.le), hS94.hasObj (.tail _ (.head _))⟩, (fun _ => trivial), by decide⟩ wn rfl (fun _ _ => (rv_assign rfl)) ?_
   refine wg_done (by kernel_rfl) ?_
   refine qr ?_
   refine wl_val wn rfl (rv_assign (v := .int .i64 0) rfl) ?_
   refine nq ?_
   obtain ⟨o95, h96, h97⟩ := ob h85
   refine wc_cutg (fun E' w' => ∃ (a102 : Option Addr) (n103 c104 : Nat) (K98 : KMap), E' = [(1, .slice a9 n10 c11), (2, sv p2_field), (3, .pointer (some ⟨g14, 0, none⟩)), (7, .slice a102 n103 c104), (8, .int .i64 s35.2)] ∧ SH w K [] w' K98 [obj g14 [.slice a1 n2 c3, .slice a5 n6 c7] 39, tail (.slice a102 n103 c104) 9 1] ∧ KLe K86 K98 ∧ SliceAt tStr K98 a102 n103 c104 o95) ?_ ?_
   ·refine wc_block ?_
    obtain ⟨r107, h108, h109⟩ := ob h96
    have hS119 : SH _ _ _ _ _ [_, _] := SH.sublist hS94 (.cons _ (.cons_cons _ (.cons_cons _ .slnil)))
    refine wc_while' (fun (s106 : (List Str) × Int) E' w' => ∃ (a114 : Option Addr) (n115 c116 : Nat) (K110 : KMap), E' = [(1, .slice a9 n10 c11), (2, sv p2_field), (3, .pointer (some ⟨g14, 0, none⟩)), (7, .slice a114 n115 c116), (8, .int .i64 s35.2), (9, .slice a89 n90 c91), (10, .int .i64 s106.2)] ∧ SH w K [] w' K110 [obj g14 [.slice a1 n2 c3, .slice a5 n6 c7] 39, tail (.slice a114 n115 c116) 9 1] ∧ KLe K86 K110 ∧ SliceAt tStr K110 a114 n115 c116 s106.1 ∧ rng64 s106.2) h108 ⟨a43, n44, c45, K86, rfl, hS119, (KLe.refl _), (SliceAt.mono (hS79.le.trans hS88.le) hs46), (by decide : rng64 0)⟩ ⟨rfl, rfl, rfl, rfl, rfl, rfl, rfl, trivial⟩ ?_
    rintro s106 _ w112 r120 h121 hx122 ⟨a114, n115, c116, K110, rfl, hS113, hl111, hs117, hr118⟩
    refine wc_seq ?_
    refine sr ?_
    refine vm rfl rfl ?_
    refine vm rfl rfl ?_
    refine wl_val wn rfl (rv_len (t := tGTerm) Try.underlying50 rfl (SliceAt.mono hl111 hs92)) ?_
    refine wl_val wn rfl (rv_lss rfl rfl) ?_
    refine nq ?_
    refine wc_cond rfl (fun hb123 => ?_) (fun hb123 => ?_)
    ·have h124 := cond_t hb123 h121
     refine wc_skip ?_
     refine qs ?_
     refine wc_block ?_
     refine wc_region ?_
     refine vm rfl rfl ?_
     refine vm rfl rfl ?_
     refine vm rfl rfl ?_
     obtain ⟨x125, hx126, h127⟩ := ob h124
     refine wl_indexAddr (t := tGTerm) wn rfl Try.underlying50 tf74 rfl rfl (SliceAt.mono hl111 hs92) hx126 ?_
     intro b128 o129 u130 hu131 ha132
     obtain ⟨rfl, hl133, hr134⟩ := hu131
     have ha135 : AtK _ b128 o129 [sv x125.Text, .int .i64 x125.At] := ha132
     refine wl_val wn rfl (rv_fieldAddr ff74_0 rfl) ?_
     refine wl_val wn rfl (rv_load1 tf9 rfl hS113 (ha135 0 _ rfl)) ?_
     obtain ⟨r136, hx137, h138⟩ := ob h127
     have hS139 : SH _ _ _ _ _ [_, _] := SH.front (p := [_]) hS113
     refine wl_call wn rfl (rt_call (vs := [.slice a114 n115 c116, sv x125.Text]) co138 rfl) ((ok_spec_l7Put F) (SH.enter (Lin := [_]) hS139) hs117 hl133 hx137) ?_
     rintro e147 w141 ⟨a143, n144, c145, K140, rfl, hS142, hs146⟩
     refine ⟨_, rfl, ?_⟩
     have hS148 : SH _ _ _ _ _ [_, _] := SH.call (Lin := [_]) hS139 hS142
     refine va rfl rfl ?_
     refine nb ?_
     refine qe_seq ?_
     refine wc_region ?_
     refine vm rfl rfl ?_
     refine wl_val wn rfl (rv_add rfl rfl) ?_
     refine va rfl rfl ?_
     refine wl_nil ?_
     obtain rfl := oi h138
     have hS149 : SH _ _ _ _ _ [_, _] := SH.front (p := [_]) hS148
     exact qe_mid' ⟨_, rfl, a143, n144, c145, K140, rfl, hS149, (hl111.trans hS142.le), hs146, (w64_rng _)⟩ ⟨rfl, rfl, rfl, rfl, rfl, rfl, rfl, trivial⟩
    ·have h124 := cond_f hb123 h121
     refine wc_exit ?_
     refine qe_then_exit ?_
     refine qe_then_exit ?_
     obtain rfl := oi h124
     have e150 := hx122 _ rfl
     subst e150
     refine qe_block_eq ?_
     obtain rfl := oi h109
     exact qe_mid' ⟨a114, n115, c116, K110, rfl, hS113, hl111, hs117⟩ ⟨rfl, rfl, rfl, rfl, rfl, trivial⟩
   ·rintro _ w100 ⟨a102, n103, c104, K98, rfl, hS101, hl99, hs105⟩
    refine qe_block ?_
    refine qe_seq ?_
    refine wc_region ?_
    refine vm rfl rfl ?_
    refine wl_val wn rfl (rv_add rfl rfl) ?_
    refine va rfl rfl ?_
    refine wl_nil ?_
    obtain rfl := oi h97
    exact qe_mid' ⟨_, rfl, a102, n103, c104, K98, rfl, hS101, (((hl40.trans hS79.le).trans hS88.le).trans hl99), hs105, (w64_rng _)⟩ ⟨rfl, rfl, rfl, rfl, rfl, trivial⟩
  ·have h53 := cond_f hb52 h50
   refine wc_exit ?_
   refine qe_then_exit ?_
   refine qe_then_exit ?_
   obtain rfl := oi h53
   have e151 := hx51 _ rfl
   subst e151
   refine qe_block_eq ?_
   obtain rfl := oi h38
   have hS152 : SH _ _ _ _ _ [_] := SH.sublist hS42 (.cons _ (.cons_cons _ .slnil))
   exact qe_mid' ⟨a43, n44, c45, K39, rfl, hS152, hl40, hs46⟩ ⟨rfl, trivial⟩
 ·rintro _ w29 ⟨a31, n32, c33, K27, rfl, hS30, hl28, hs34⟩
  refine qr ?_
  refine vm rfl rfl ?_
  refine va rfl rfl ?_
  refine nq ?_
  refine wc_ret ?_
  obtain rfl := oi h26
  exact qe_ret (vs := [_]) Try.results106 ⟨rfl, trivial⟩ ⟨a31, n32, c33, K27, rfl, hS30, hs34⟩

set_option maxHeartbeats 2000000 in
theorem ok_spec_l7Post (F : Nat) {w : World} {K : KMap} {a1 : Option Addr} {n2 c3 : Nat} {a5 : Option Addr} {n6 c7 : Nat} {a10 : Option Addr} {n11 c12 : Nat} {a14 : Option Addr} {n15 c16 : Nat} {p0_c : GConf} {p1_d : GDoc} {p2_field : Str} {p3_term : Str} {r : (List Int)} (hS : SH w K [] w K []) (hs4 : SliceAt tStr K a1 n2 c3 p0_c.Stops) (hs8 : SliceAt tGSyn K a5 n6 c7 p0_c.Syns) (hr9 : rng64 p1_d.Id) (hs13 : SliceAt tGField K a10 n11 c12 p1_d.Fields) (hs17 : SliceAt tGAttr K a14 n15 c16 p1_d.Nums) (hl18 : p2_field.length ≤ maxLen) (hl19 : p3_term.length ≤ maxLen) (hm : M.spec_l7Post F p0_c p1_d p2_field p3_term = some r) :
  Calls Try.prog 141 #[.agg #[.slice a1 n2 c3, .slice a5 n6 c7], .agg #[.int .i64 p1_d.Id, .slice a10 n11 c12, .slice a14 n15 c16], sv p2_field, sv p3_term] w fun e w' => ∃ (a_1 : Option Addr) (n_2 c_3 : Nat) (K' : KMap), e = .returned (.slice a_1 n_2 c_3) ∧ SH w K [] w' K' [tail (.slice a_1 n_2 c_3) 3 1] ∧ SliceAt tInt K' a_1 n_2 c_3 r := by
 rw [M.spec_l7Post] at hm
 refine calls_in Try.func141 rfl Try.ntmps141 rfl ?_
 refine sr ?_
 refine wl_box wn rfl rfl hS ?_
 intro g20 w21 hS22
 have hS23 : SH _ _ _ _ _ [obj g20 [.slice a1 n2 c3, .slice a5 n6 c7] 39] := hS22
 refine wl_box wn rfl rfl hS23 ?_
 intro g24 w25 hS26
 have hS27 : SH _ _ _ _ _ [obj g24 [.int .i64 p1_d.Id, .slice a10 n11 c12, .slice a14 n15 c16] 49, _] := hS26
 refine wl_val wn rfl (rv_assign (v := .slice none 0 0) rfl) ?_
 refine nr ?_
 refine wl_buildSlice0 tInt wn rfl Try.underlying24 tf3 hS27 ?_
 intro a28 w29 K30 hl31 hs32 hS33
 refine va rfl rfl ?_
 refine ns ?_
 refine wc_held (fun w' => Holds K30 w' ∧ HasObj g20 [.slice a1 n2 c3, .slice a5 n6 c7] w' ∧ HasObj g24 [.int .i64 p1_d.Id, .slice a10 n11 c12, .slice a14 n15 c16] w') (fun w' => True) 6 [] mixed ?_
 have hS35 := SH.drew hS33
 refine wg_val (i := 0) (listed' := #[true, false, false, false, false, false]) (HasObj g20 [.slice a1 n2 c3, .slice a5 n6 c7]) rfl (by kernel_rfl) (pk_then pk_body) (by kernel_rfl) rfl (by kernel_rfl) (by kernel_rfl) rfl (.inl fun _ h => h.2.1) ⟨⟨hS35.hasK (KLe.refl _), hS35.hasObj (.tail _ (.tail _ (.head _))), hS35.hasObj (.tail _ (.head _))⟩, (fun _ => trivial), by decide⟩ wn rfl (fun _ h => rh_loadmS (ds := [.slice a1 n2 c3, .slice a5 n6 c7]) tf39 rfl rfl rfl h) ?_
 refine wg_val (i := 1) (listed' := #[true, true, false, false, false, false]) (HasObj g24 [.int .i64 p1_d.Id, .slice a10 n11 c12, .slice a14 n15 c16]) rfl (by kernel_rfl) (pk_then pk_body) (by kernel_rfl) rfl (by kernel_rfl) (by kernel_rfl) rfl (.inl fun _ h => h.2.2) ⟨⟨hS35.hasK (KLe.refl _), hS35.hasObj (.tail _ (.tail _ (.head _))), hS35.hasObj (.tail _ (.head _))⟩, (fun _ => trivial), by decide⟩ wn rfl (fun _ h => rh_loadmS (ds := [.int .i64 p1_d.Id, .slice a10 n11 c12, .slice a14 n15 c16]) tf49 rfl rfl rfl h) ?_
 refine wg_val (i := 2) (listed' := #[true, true, true, false, false, false]) (fun _ => True) rfl (by kernel_rfl) (pk_then pk_body) (by kernel_rfl) rfl (by kernel_rfl) (by kernel_rfl) rfl (.inl fun _ _ => trivial) ⟨⟨hS35.hasK (KLe.refl _), hS35.hasObj (.tail _ (.tail _ (.head _))), hS35.hasObj (.tail _ (.head _))⟩, (fun _ => trivial), by decide⟩ wn rfl (fun _ _ => (rv_move rfl)) ?_
 refine wg_one (i := 3) (by kernel_rfl) rfl ?_
 obtain ⟨r36, hx37, h38⟩ := ob hm
 refine wl_call wn rfl (rt_call (vs := [.agg #[.int .i64 p1_d.Id, .slice a10 n11 c12, .slice a14 n15 c16], sv p2_field]) co140 rfl) ((ok_spec_l6Field F) hS35.enter0 hr9 (SliceAt.mono hl31 hs13) (SliceAt.mono hl31 hs17) hl18 hx37) ?_
 rintro e43 w40 ⟨K39, rfl, hS41, hl42⟩
 refine ⟨_, rfl, ?_⟩
 have hS44 : SH _ _ _ _ _ [_, _, _] := SH.call0 hS35 hS41
 refine wl_nil (qe_held (listed' := #[true, true, true, true, false, false]) rfl ⟨⟨hS44.hasK hS41.le, hS44.hasObj (.tail _ (.tail _ (.head _))), hS44.hasObj (.tail _ (.head _))⟩, (fun _ => trivial), by decide⟩ ?_)
 refine wg_one (i := 4) (by kernel_rfl) rfl ?_
 obtain ⟨r45, hx46, h47⟩ := ob h38
 refine wl_call wn rfl (rt_call (vs := [.agg #[.slice a1 n2 c3, .slice a5 n6 c7], sv r36]) co139 rfl) ((ok_spec_l2Terms F) hS44.enter0 (SliceAt.mono (hl31.trans hS41.le) hs4) (SliceAt.mono (hl31.trans hS41.le) hs8) hl42 hx46) ?_
 rintro e55 w49 ⟨a51, n52, c53, K48, rfl, hS50, hs54⟩
 refine ⟨_, rfl, ?_⟩
 have hS56 : SH _ _ _ _ _ [_, _, _, _] := SH.call0 hS44 hS50
 refine wl_nil (qe_held (listed' := #[true, true, true, true, true, false]) rfl ⟨⟨hS56.hasK (hS41.le.trans hS50.le), hS56.hasObj (.tail _ (.tail _ (.tail _ (.head _)))), hS56.hasObj (.tail _ (.tail _ (.head _)))⟩, (fun _ => trivial), by decide⟩ ?_)
 refine wg_val (i := 5) (listed' := #[true, true, true, true, true, true]) (fun _ => True) rfl (by kernel_rfl) (pk_then pk_body) (by kernel_rfl) rfl (by kernel_rfl) (by kernel_rfl) rfl (.inl fun _ _ => trivial) ⟨⟨hS56.hasK (hS41.le.trans hS50.le), hS56.hasObj (.tail _ (.tail _ (.tail _ (.head _)))), hS56.hasObj (.tail _ (.tail _ (.head _)))⟩, (fun _ => trivial), by decide⟩ wn rfl (fun _ _ => (rv_assign rfl)) ?_
 refine wg_done (by kernel_rfl) ?_
 refine qs ?_
 refine sr ?_
 refine wl_val wn rfl (rv_assign (v := .int .i64 0) rfl) ?_
 refine nq ?_
 obtain ⟨o57, h58, h59⟩ := ob h47
 refine wc_cutg (fun E' w' => ∃ (a64 : Option Addr) (n65 c66 : Nat) (K60 : KMap), E' = [(9, .slice a64 n65 c66)] ∧ SH w K [] w' K60 [tail (.slice a64 n65 c66) 3 1] ∧ KLe K48 K60 ∧ SliceAt tInt K60 a64 n65 c66 o57) ?_ ?_
 ·refine wc_block ?_
  obtain ⟨r69, h70, h71⟩ := ob h58
  have hS81 : SH _ _ _ _ _ [_] := SH.sublist hS56 (.cons _ (.cons_cons _ (.cons _ (.cons _ .slnil))))
  refine wc_while' (fun (s68 : (List Int) × Int) E' w' => ∃ (a76 : Option Addr) (n77 c78 : Nat) (K72 : KMap), E' = [(3, sv p3_term), (9, .slice a76 n77 c78), (10, .slice a51 n52 c53), (11, .int .i64 s68.2)] ∧ SH w K [] w' K72 [tail (.slice a76 n77 c78) 3 1] ∧ KLe K48 K72 ∧ SliceAt tInt K72 a76 n77 c78 s68.1 ∧ rng64 s68.2) h70 ⟨a28, 0, 0, K48, rfl, hS81, (KLe.refl _), (SliceAt.mono (hS41.le.trans hS50.le) hs32), (by decide : rng64 0)⟩ ⟨rfl, rfl, rfl, rfl, trivial⟩ ?_
  rintro s68 _ w74 r82 h83 hx84 ⟨a76, n77, c78, K72, rfl, hS75, hl73, hs79, hr80⟩
  refine wc_seq ?_
  refine sr ?_
  refine vm rfl rfl ?_
  refine vm rfl rfl ?_
  refine wl_val wn rfl (rv_len (t := tGTerm) Try.underlying50 rfl (SliceAt.mono hl73 hs54)) ?_
  refine wl_val wn rfl (rv_lss rfl rfl) ?_
  refine nq ?_
  refine wc_cond rfl (fun hb85 => ?_) (fun hb85 => ?_)
  ·have h86 := cond_t hb85 h83
   refine wc_skip ?_
   refine qs ?_
   refine wc_block ?_
   refine sr ?_
   refine vm rfl rfl ?_
   refine vm rfl rfl ?_
   obtain ⟨x87, hx88, h89⟩ := ob h86
   refine wl_indexAddr (t := tGTerm) wn rfl Try.underlying50 tf74 rfl rfl (SliceAt.mono hl73 hs54) hx88 ?_
   intro b90 o91 u92 hu93 ha94
   obtain ⟨rfl, hl95, hr96⟩ := hu93
   have ha97 : AtK _ b90 o91 [sv x87.Text, .int .i64 x87.At] := ha94
   refine wl_val wn rfl (rv_fieldAddr ff74_0 rfl) ?_
   refine wl_val wn rfl (rv_load1 tf9 rfl hS75 (ha97 0 _ rfl)) ?_
   refine vm rfl rfl ?_
   refine wl_val wn rfl (rv_seql rfl rfl) ?_
   refine nq ?_
   refine wc_cond rfl (fun hb98 => ?_) (fun hb98 => ?_)
   ·have h99 := cond_t hb98 h89
    refine wc_region ?_
    refine vm rfl rfl ?_
    refine vm rfl rfl ?_
    refine vm rfl rfl ?_
    obtain ⟨x100, hx101, h102⟩ := ob h99
    refine wl_indexAddr (t := tGTerm) wn rfl Try.underlying50 tf74 rfl rfl (SliceAt.mono hl73 hs54) hx101 ?_
    intro b103 o104 u105 hu106 ha107
    obtain ⟨rfl, hl108, hr109⟩ := hu106
    have ha110 : AtK _ b103 o104 [sv x100.Text, .int .i64 x100.At] := ha107
    refine wl_val wn rfl (rv_fieldAddr ff74_1 rfl) ?_
    refine wl_val wn rfl (rv_load1 tf3 rfl hS75 (ha110 1 _ rfl)) ?_
    refine wl_buildSlice (t := tInt) (n := 1) (pv := [(0, .int .i64 x100.At)]) (cs := [.int .i64 x100.At]) (xs := [x100.At]) wn rfl Try.underlying24 tf3 rfl rfl rfl (by kernel_rfl) rfl rfl (lit_cons (u := .int .i64 x100.At) (z := x100.At) ⟨rfl, hr109⟩ lit_nil) hS75 ?_
    intro a111 w112 K113 hl114 hs115 hS116
    have hS117 : SH _ _ _ _ _ [_, _] := SH.front (p := [_]) hS116
    obtain ⟨x118, hx119, h120⟩ := ob h102
    refine wl_append (t := tInt) wn rfl Try.underlying24 tf3 rfl rfl rfl rfl rfl (SliceAt.mono hl114 hs79) hs115 hx119 hS117 ?_
    intro a121 n122 c123 w124 K125 hl126 hs127 hS128
    refine va rfl rfl ?_
    refine nb ?_
    refine qe_seq ?_
    refine wc_region ?_
    refine vm rfl rfl ?_
    refine wl_val wn rfl (rv_add rfl rfl) ?_
    refine va rfl rfl ?_
    refine wl_nil ?_
    obtain rfl := oi h120
    have hS129 : SH _ _ _ _ _ [_] := SH.sublist hS128 (.cons_cons _ (.cons _ .slnil))
    exact qe_mid' ⟨_, rfl, a121, n122, c123, K125, rfl, hS129, ((hl73.trans hl114).trans hl126), hs127, (w64_rng _)⟩ ⟨rfl, rfl, rfl, rfl, trivial⟩
   ·have h99 := cond_f hb98 h89
    refine wc_skip ?_
    refine qe_block ?_
    refine qe_seq ?_
    refine wc_region ?_
    refine vm rfl rfl ?_
    refine wl_val wn rfl (rv_add rfl rfl) ?_
    refine va rfl rfl ?_
    refine wl_nil ?_
    obtain rfl := oi h99
    exact qe_mid' ⟨_, rfl, a76, n77, c78, K72, rfl, hS75, hl73, hs79, (w64_rng _)⟩ ⟨rfl, rfl, rfl, rfl, trivial⟩
  ·have h86 := cond_f hb85 h83
   refine wc_exit ?_
   refine qe_then_exit ?_
   refine qe_then_exit ?_
   obtain rfl := oi h86
   have e130 := hx84 _ rfl
   subst e130
   refine qe_block_eq ?_
   obtain rfl := oi h71
   exact qe_mid' ⟨a76, n77, c78, K72, rfl, hS75, hl73, hs79⟩ ⟨rfl, trivial⟩
 ·rintro _ w62 ⟨a64, n65, c66, K60, rfl, hS63, hl61, hs67⟩
  refine qr ?_
  refine vm rfl rfl ?_
  refine va rfl rfl ?_
  refine nq ?_
  refine wc_ret ?_
  obtain rfl := oi h59
  exact qe_ret (vs := [_]) Try.results141 ⟨rfl, trivial⟩ ⟨a64, n65, c66, K60, rfl, hS63, hs67⟩

set_option maxHeartbeats 2000000 in
theorem ok_spec_l7Entry (F : Nat) {w : World} {K : KMap} {a1 : Option Addr} {n2 c3 : Nat} {a5 : Option Addr} {n6 c7 : Nat} {a9 : Option Addr} {n10 c11 : Nat} {p0_c : GConf} {p1_docs : List GDoc} {p2_field : Str} {p3_term : Str} {r : GEntry} (hS : SH w K [] w K []) (hs4 : SliceAt tStr K a1 n2 c3 p0_c.Stops) (hs8 : SliceAt tGSyn K a5 n6 c7 p0_c.Syns) (hs12 : SliceAt tGDoc K a9 n10 c11 p1_docs) (hl13 : p2_field.length ≤ maxLen) (hl14 : p3_term.length ≤ maxLen) (hm : M.spec_l7Entry F p0_c p1_docs p2_field p3_term = some r) :
  Calls Try.prog 107 #[.agg #[.slice a1 n2 c3, .slice a5 n6 c7], .slice a9 n10 c11, sv p2_field, sv p3_term] w fun e w' => ∃ (a_3 : Option Addr) (n_4 c_5 : Nat) (K' : KMap), e = .returned (.agg #[sv r.Field, sv r.Term, .slice a_3 n_4 c_5]) ∧ SH w K [] w' K' [tail (.slice a_3 n_4 c_5) 64 2] ∧ r.Field.length ≤ maxLen ∧ r.Term.length ≤ maxLen ∧ SliceAt tGPost K' a_3 n_4 c_5 r.Posts := by
 rw [M.spec_l7Entry] at hm
 refine calls_in Try.func107 rfl Try.ntmps107 rfl ?_
 refine sr ?_
 refine wl_box wn rfl rfl hS ?_
 intro g15 w16 hS17
 have hS18 : SH _ _ _ _ _ [obj g15 [.slice a1 n2 c3, .slice a5 n6 c7] 39] := hS17
 refine wl_alloc wn rfl tf60 hS18 ?_
 intro g19 w20 hS21
 have hS22 : SH _ _ _ _ _ [obj g19 [sv [], sv [], .slice none 0 0] 60, _] := hS21
 refine nr ?_
 refine vm rfl rfl ?_
 refine vm rfl rfl ?_
 refine wl_val wn rfl (rv_build (cs := #[sv p2_field, sv p3_term, .slice none 0 0]) sp60 tf60 rfl (by kernel_rfl)) ?_
 refine wl_alloc wn rfl tf60 hS22 ?_
 intro g23 w24 hS25
 have hS26 : SH _ _ _ _ _ [obj g23 [sv [], sv [], .slice none 0 0] 60, _, _] := hS25
 refine wl_store (cs' := [sv p2_field, sv p3_term, .slice none 0 0]) (v := .agg #[sv p2_field, sv p3_term, .slice none 0 0]) wn tf60 rfl rfl rfl (by simp [Value.cells, Value.oneCell', sv]) hS26 rfl rfl ?_
 intro w27 hS28
 refine nsr ?_
 refine wl_val wn rfl (rv_assign (v := .int .i64 0) rfl) ?_
 refine nq ?_
 obtain ⟨o29, h30, h31⟩ := ob hm
 refine wc_cutg (fun E' w' => ∃ (a38 : Option Addr) (n39 c40 : Nat) (K32 : KMap), E' = [(8, .pointer (some ⟨g19, 0, none⟩)), (9, .pointer (some ⟨g23, 0, none⟩))] ∧ SH w K [] w' K32 [obj g19 [sv [], sv [], .slice none 0 0] 60, obj g23 [sv o29.Field, sv o29.Term, .slice a38 n39 c40] 60, tail (.slice a38 n39 c40) 64 2] ∧ KLe K K32 ∧ o29.Field.length ≤ maxLen ∧ o29.Term.length ≤ maxLen ∧ SliceAt tGPost K32 a38 n39 c40 o29.Posts) ?_ ?_
 ·refine wc_block ?_
  obtain ⟨r43, h44, h45⟩ := ob h30
  have hS57 := SH.nil hS28 64 2
  have hS58 : SH _ _ _ _ _ [_, _, _, _] := SH.front (p := [_]) hS57
  have hS59 : SH _ _ _ _ _ [_, _, _, _] := SH.front (p := [_, _]) hS58
  have hS60 : SH _ _ _ _ _ [_, _, _, _] := SH.front (p := [_, _, _]) hS59
  refine wc_while' (fun (s42 : Int × GEntry) E' w' => ∃ (a53 : Option Addr) (n54 c55 : Nat) (K46 : KMap), E' = [(1, .slice a9 n10 c11), (2, sv p2_field), (3, sv p3_term), (4, .pointer (some ⟨g15, 0, none⟩)), (8, .pointer (some ⟨g19, 0, none⟩)), (9, .pointer (some ⟨g23, 0, none⟩)), (10, .int .i64 s42.1)] ∧ SH w K [] w' K46 [obj g15 [.slice a1 n2 c3, .slice a5 n6 c7] 39, obj g19 [sv [], sv [], .slice none 0 0] 60, obj g23 [sv s42.2.Field, sv s42.2.Term, .slice a53 n54 c55] 60, tail (.slice a53 n54 c55) 64 2] ∧ KLe K K46 ∧ rng64 s42.1 ∧ s42.2.Field.length ≤ maxLen ∧ s42.2.Term.length ≤ maxLen ∧ SliceAt tGPost K46 a53 n54 c55 s42.2.Posts) h44 ⟨none, 0, 0, K, rfl, hS60, (KLe.refl _), (by decide : rng64 0), hl13, hl14, (SliceAt.nil _ _)⟩ ⟨rfl, rfl, rfl, rfl, rfl, rfl, rfl, trivial⟩ ?_
  rintro s42 _ w48 r61 h62 hx63 ⟨a53, n54, c55, K46, rfl, hS49, hl47, hr50, hl51, hl52, hs56⟩
  refine wc_seq ?_
  refine sr ?_
  refine vm rfl rfl ?_
  refine vm rfl rfl ?_
  refine wl_val wn rfl (rv_len (t := tGDoc) Try.underlying23 rfl (SliceAt.mono hl47 hs12)) ?_
  refine wl_val wn rfl (rv_lss rfl rfl) ?_
  refine nq ?_
  refine wc_cond rfl (fun hb64 => ?_) (fun hb64 => ?_)
  ·have h65 := cond_t hb64 h62
   refine wc_skip ?_
   refine qs ?_
   refine wc_block ?_
   refine wc_seq ?_
   refine wc_held (fun w' => Holds K46 w' ∧ HasObj g15 [.slice a1 n2 c3, .slice a5 n6 c7] w') (fun w' => True) 9 [] mixed ?_
   have hS67 := SH.drew hS49
   refine wg_val (i := 0) (listed' := #[true, false, false, false, false, false, false, false, false]) (HasObj g15 [.slice a1 n2 c3, .slice a5 n6 c7]) rfl (by kernel_rfl) (pk_then (pk_block (pk_then (pk_then (pk_block (pk_then (pk_then pk_body))))))) (by kernel_rfl) rfl (by kernel_rfl) (by kernel_rfl) rfl (.inl fun _ h => h.2) ⟨⟨hS67.hasK (KLe.refl _), hS67.hasObj (.head _)⟩, (fun _ => trivial), by decide⟩ wn rfl (fun _ h => rh_loadmS (ds := [.slice a1 n2 c3, .slice a5 n6 c7]) tf39 rfl rfl rfl h) ?_
   refine wg_val (i := 1) (listed' := #[true, true, false, false, false, false, false, false, false]) (fun _ => True) rfl (by kernel_rfl) (pk_then (pk_block (pk_then (pk_then (pk_block (pk_then (pk_then pk_body))))))) (by kernel_rfl) rfl (by kernel_rfl) (by kernel_rfl) rfl (.inl fun _ _ => trivial) ⟨⟨hS67.hasK (KLe.refl _), hS67.hasObj (.head _)⟩, (fun _ => trivial), by decide⟩ wn rfl (fun _ _ => (rv_move rfl)) ?_
   refine wg_val (i := 2) (listed' := #[true, true, true, false, false, false, false, false, false]) (fun _ => True) rfl (by kernel_rfl) (pk_then (pk_block (pk_then (pk_then (pk_block (pk_then (pk_then pk_body))))))) (by kernel_rfl) rfl (by kernel_rfl) (by kernel_rfl) rfl (.inl fun _ _ => trivial) ⟨⟨hS67.hasK (KLe.refl _), hS67.hasObj (.head _)⟩, (fun _ => trivial), by decide⟩ wn rfl (fun _ _ => (rv_move rfl)) ?_
   obtain ⟨x68, hx69, h70⟩ := ob h65
   refine wg_indexAddr (t := tGDoc) (j := 3) (listed' := #[true, true, true, true, false, false, false, false, false]) rfl (by kernel_rfl) (pk_then (pk_block (pk_then (pk_then (pk_block (pk_then (pk_then pk_body))))))) (by kernel_rfl) rfl (by kernel_rfl) (by kernel_rfl) rfl ⟨⟨hS67.hasK (KLe.refl _), hS67.hasObj (.head _)⟩, (fun _ => trivial), by decide⟩ wn rfl Try.underlying23 tf49 rfl rfl (SliceAt.mono hl47 hs12) hx69 ?_
   intro b71 o72 u73 hu74 ha75
   obtain ⟨a77, n78, c79, a81, n82, c83, rfl, hr76, hs80, hs84⟩ := hu74
   have ha85 : AtK _ b71 o72 [.int .i64 x68.Id, .slice a77 n78 c79, .slice a81 n82 c83] := ha75
   refine wg_val (i := 4) (listed' := #[true, true, true, true, true, false, false, false, false]) (Holds K46) rfl (by kernel_rfl) (pk_then (pk_block (pk_then (pk_then (pk_block (pk_then (pk_then pk_body))))))) (by kernel_rfl) rfl (by kernel_rfl) (by kernel_rfl) rfl (.inl fun _ h => h.1) ⟨⟨hS67.hasK (KLe.refl _), hS67.hasObj (.head _)⟩, (fun _ => trivial), by decide⟩ wn rfl (fun _ h => rh_loadS (cs := [.int .i64 x68.Id, .slice a77 n78 c79, .slice a81 n82 c83]) tf49 rfl ha85 rfl h) ?_
   refine wg_val (i := 5) (listed' := #[true, true, true, true, true, true, false, false, false]) (fun _ => True) rfl (by kernel_rfl) (pk_then (pk_block (pk_then (pk_then (pk_block (pk_then (pk_then pk_body))))))) (by kernel_rfl) rfl (by kernel_rfl) (by kernel_rfl) rfl (.inl fun _ _ => trivial) ⟨⟨hS67.hasK (KLe.refl _), hS67.hasObj (.head _)⟩, (fun _ => trivial), by decide⟩ wn rfl (fun _ _ => (rv_move rfl)) ?_
   refine wg_val (i := 6) (listed' := #[true, true, true, true, true, true, true, false, false]) (fun _ => True) rfl (by kernel_rfl) (pk_then (pk_block (pk_then (pk_then (pk_block (pk_then (pk_then pk_body))))))) (by kernel_rfl) rfl (by kernel_rfl) (by kernel_rfl) rfl (.inl fun _ _ => trivial) ⟨⟨hS67.hasK (KLe.refl _), hS67.hasObj (.head _)⟩, (fun _ => trivial), by decide⟩ wn rfl (fun _ _ => (rv_move rfl)) ?_
   refine wg_one (i := 7) (by kernel_rfl) rfl ?_
   obtain ⟨r86, hx87, h88⟩ := ob h70
   refine wl_call wn rfl (rt_call (vs := [.agg #[.slice a1 n2 c3, .slice a5 n6 c7], .agg #[.int .i64 x68.Id, .slice a77 n78 c79, .slice a81 n82 c83], sv p2_field, sv p3_term]) co141 rfl) ((ok_spec_l7Post F) hS67.enter0 (SliceAt.mono hl47 hs4) (SliceAt.mono hl47 hs8) hr76 hs80 hs84 hl13 hl14 hx87) ?_
   rintro e96 w90 ⟨a92, n93, c94, K89, rfl, hS91, hs95⟩
   refine ⟨_, rfl, ?_⟩
   have hS97 : SH _ _ _ _ _ [_, _, _, _, _] := SH.call0 hS67 hS91
   refine wl_nil (qe_held (listed' := #[true, true, true, true, true, true, true, true, false]) rfl ⟨⟨hS97.hasK hS91.le, hS97.hasObj (.tail _ (.head _))⟩, (fun _ => trivial), by decide⟩ ?_)
   refine wg_val (i := 8) (listed' := #[true, true, true, true, true, true, true, true, true]) (fun _ => True) rfl (by kernel_rfl) (pk_then (pk_block (pk_then (pk_then (pk_block (pk_then (pk_then pk_body))))))) (by kernel_rfl) rfl (by kernel_rfl) (by kernel_rfl) rfl (.inl fun _ _ => trivial) ⟨⟨hS97.hasK hS91.le, hS97.hasObj (.tail _ (.head _))⟩, (fun _ => trivial), by decide⟩ wn rfl (fun _ _ => (rv_assign rfl)) ?_
   refine wg_done (by kernel_rfl) ?_
   refine qr ?_
   refine vm rfl rfl ?_
   refine wl_val wn rfl (rv_len (t := tInt) Try.underlying24 rfl hs95) ?_
   refine wl_val wn rfl (rv_gtr rfl rfl) ?_
   refine nq ?_
   refine wc_cond rfl (fun hb98 => ?_) (fun hb98 => ?_)
   ·have h99 := cond_t hb98 h88
    refine wc_held (fun w' => Holds K89 w') (fun w' => HasObj g23 [sv s42.2.Field, sv s42.2.Term, .slice a53 n54 c55] w') 12 [(1, 10), (1, 11), (1, 12), (10, 11), (10, 12), (11, 12)] mixed ?_
    have hS101 := SH.drew hS97
    refine wg_val (i := 0) (listed' := #[true, false, false, false, false, false, false, false, false, false, false, false, false]) (fun _ => True) rfl (by kernel_rfl) (pk_block (pk_then (pk_then (pk_block (pk_then (pk_then pk_body)))))) (by kernel_rfl) rfl (by kernel_rfl) (by kernel_rfl) rfl (.inl fun _ _ => trivial) ⟨(hS101.hasK (KLe.refl _)), (fun _ => hS101.hasObj (.tail _ (.tail _ (.tail _ (.head _))))), by decide⟩ wn rfl (fun _ _ => (rv_fieldAddr ff60_2 rfl)) ?_
    refine wg_val (i := 1) (listed' := #[true, true, false, false, false, false, false, false, false, false, false, false, false]) (HasObj g23 [sv s42.2.Field, sv s42.2.Term, .slice a53 n54 c55]) rfl (by kernel_rfl) (pk_block (pk_then (pk_then (pk_block (pk_then (pk_then pk_body)))))) (by kernel_rfl) rfl (by kernel_rfl) (by kernel_rfl) rfl (.inr ⟨rfl, fun _ _ h => h⟩) ⟨(hS101.hasK (KLe.refl _)), (fun _ => hS101.hasObj (.tail _ (.tail _ (.tail _ (.head _))))), by decide⟩ wn rfl (fun _ h => rh_loadm1 tf58 rfl rfl h) ?_
    refine wg_val (i := 2) (listed' := #[true, true, true, false, false, false, false, false, false, false, false, false, false]) (fun _ => True) rfl (by kernel_rfl) (pk_block (pk_then (pk_then (pk_block (pk_then (pk_then pk_body)))))) (by kernel_rfl) rfl (by kernel_rfl) (by kernel_rfl) rfl (.inl fun _ _ => trivial) ⟨(hS101.hasK (KLe.refl _)), (fun _ => hS101.hasObj (.tail _ (.tail _ (.tail _ (.head _))))), by decide⟩ wn rfl (fun _ _ => (rv_move rfl)) ?_
    refine wg_val (i := 3) (listed' := #[true, true, true, true, false, false, false, false, false, false, false, false, false]) (fun _ => True) rfl (by kernel_rfl) (pk_block (pk_then (pk_then (pk_block (pk_then (pk_then pk_body)))))) (by kernel_rfl) rfl (by kernel_rfl) (by kernel_rfl) rfl (.inl fun _ _ => trivial) ⟨(hS101.hasK (KLe.refl _)), (fun _ => hS101.hasObj (.tail _ (.tail _ (.tail _ (.head _))))), by decide⟩ wn rfl (fun _ _ => (rv_move rfl)) ?_
    obtain ⟨x102, hx103, h104⟩ := ob h99
    refine wg_indexAddr (t := tGDoc) (j := 4) (listed' := #[true, true, true, true, true, false, false, false, false, false, false, false, false]) rfl (by kernel_rfl) (pk_block (pk_then (pk_then (pk_block (pk_then (pk_then pk_body)))))) (by kernel_rfl) rfl (by kernel_rfl) (by kernel_rfl) rfl ⟨(hS101.hasK (KLe.refl _)), (fun _ => hS101.hasObj (.tail _ (.tail _ (.tail _ (.head _))))), by decide⟩ wn rfl Try.underlying23 tf49 rfl rfl (SliceAt.mono (hl47.trans hS91.le) hs12) hx103 ?_
    intro b105 o106 u107 hu108 ha109
    obtain ⟨a111, n112, c113, a115, n116, c117, rfl, hr110, hs114, hs118⟩ := hu108
    have ha119 : AtK _ b105 o106 [.int .i64 x102.Id, .slice a111 n112 c113, .slice a115 n116 c117] := ha109
    refine wg_val (i := 5) (listed' := #[true, true, true, true, true, true, false, false, false, false, false, false, false]) (fun _ => True) rfl (by kernel_rfl) (pk_block (pk_then (pk_then (pk_block (pk_then (pk_then pk_body)))))) (by kernel_rfl) rfl (by kernel_rfl) (by kernel_rfl) rfl (.inl fun _ _ => trivial) ⟨(hS101.hasK (KLe.refl _)), (fun _ => hS101.hasObj (.tail _ (.tail _ (.tail _ (.head _))))), by decide⟩ wn rfl (fun _ _ => (rv_fieldAddr ff49_0 rfl)) ?_
    refine wg_val (i := 6) (listed' := #[true, true, true, true, true, true, true, false, false, false, false, false, false]) (Holds K89) rfl (by kernel_rfl) (pk_block (pk_then (pk_then (pk_block (pk_then (pk_then pk_body)))))) (by kernel_rfl) rfl (by kernel_rfl) (by kernel_rfl) rfl (.inl fun _ h => h) ⟨(hS101.hasK (KLe.refl _)), (fun _ => hS101.hasObj (.tail _ (.tail _ (.tail _ (.head _))))), by decide⟩ wn rfl (fun _ h => rh_load1 tf3 rfl (ha119 0 _ rfl) h) ?_
    refine wg_val (i := 7) (listed' := #[true, true, true, true, true, true, true, true, false, false, false, false, false]) (fun _ => True) rfl (by kernel_rfl) (pk_block (pk_then (pk_then (pk_block (pk_then (pk_then pk_body)))))) (by kernel_rfl) rfl (by kernel_rfl) (by kernel_rfl) rfl (.inl fun _ _ => trivial) ⟨(hS101.hasK (KLe.refl _)), (fun _ => hS101.hasObj (.tail _ (.tail _ (.tail _ (.head _))))), by decide⟩ wn rfl (fun _ _ => (rv_move rfl)) ?_
    refine wg_val (i := 8) (listed' := #[true, true, true, true, true, true, true, true, true, false, false, false, false]) (fun _ => True) rfl (by kernel_rfl) (pk_block (pk_then (pk_then (pk_block (pk_then (pk_then pk_body)))))) (by kernel_rfl) rfl (by kernel_rfl) (by kernel_rfl) rfl (.inl fun _ _ => trivial) ⟨(hS101.hasK (KLe.refl _)), (fun _ => hS101.hasObj (.tail _ (.tail _ (.tail _ (.head _))))), by decide⟩ wn rfl (fun _ _ => (rv_build (cs := #[.int .i64 x102.Id, .slice a92 n93 c94]) sp64 tf64 rfl (by kernel_rfl))) ?_
    refine wg_one (i := 9) (by kernel_rfl) rfl ?_
    refine wl_buildSlice (t := tGPost) (n := 1) (pv := [(0, .agg #[.int .i64 x102.Id, .slice a92 n93 c94])]) (cs := [.int .i64 x102.Id, .slice a92 n93 c94]) (xs := [(GPost.mk x102.Id r86)]) wn rfl Try.underlying58 tf64 rfl rfl rfl (by kernel_rfl) rfl rfl (lit_cons (u := .agg #[.int .i64 x102.Id, .slice a92 n93 c94]) (z := (GPost.mk x102.Id r86)) ⟨a92, n93, c94, rfl, hr110, hs95⟩ lit_nil) hS101 ?_
    intro a120 w121 K122 hl123 hs124 hS125
    refine wl_nil (qe_held (listed' := #[true, true, true, true, true, true, true, true, true, true, false, false, false]) rfl ⟨(hS125.hasK hl123), (fun _ => hS125.hasObj (.tail _ (.tail _ (.tail _ (.tail _ (.head _)))))), by decide⟩ ?_)
    refine wg_one (i := 10) (by kernel_rfl) rfl ?_
    have hS126 : SH _ _ _ _ _ [_, _, _, _, _, _] := SH.front (p := [_, _, _, _, _]) hS125
    obtain ⟨x127, hx128, h129⟩ := ob h104
    refine wl_append (t := tGPost) wn rfl Try.underlying58 tf64 rfl rfl rfl rfl rfl (SliceAt.mono (hS91.le.trans hl123) hs56) hs124 hx128 hS126 ?_
    intro a130 n131 c132 w133 K134 hl135 hs136 hS137
    refine wl_nil (qe_held (listed' := #[true, true, true, true, true, true, true, true, true, true, true, false, false]) rfl ⟨(hS137.hasK (hl123.trans hl135)), (fun _ => hS137.hasObj (.tail _ (.tail _ (.tail _ (.tail _ (.tail _ (.head _))))))), by decide⟩ ?_)
    refine wg_val (i := 11) (listed' := #[true, true, true, true, true, true, true, true, true, true, true, true, false]) (fun _ => True) rfl (by kernel_rfl) (pk_block (pk_then (pk_then (pk_block (pk_then (pk_then pk_body)))))) (by kernel_rfl) rfl (by kernel_rfl) (by kernel_rfl) rfl (.inl fun _ _ => trivial) ⟨(hS137.hasK (hl123.trans hl135)), (fun _ => hS137.hasObj (.tail _ (.tail _ (.tail _ (.tail _ (.tail _ (.head _))))))), by decide⟩ wn rfl (fun _ _ => (rv_fieldAddr ff60_2 rfl)) ?_
    refine wg_one (i := 12) (by kernel_rfl) rfl ?_
    have hS138 : SH _ _ _ _ _ [_, _, _, _, _, _] := SH.front (p := [_, _, _, _, _]) hS137
    refine wl_store (cs' := [sv s42.2.Field, sv s42.2.Term, .slice a130 n131 c132]) (v := .slice a130 n131 c132) wn tf58 rfl rfl rfl (by simp [Value.cells, Value.oneCell']) hS138 rfl rfl ?_
    intro w139 hS140
    refine wl_nil (qe_held (listed' := #[true, true, true, true, true, true, true, true, true, true, true, true, true]) rfl ⟨(hS140.hasK (hl123.trans hl135)), (fun h => nomatch h), by decide⟩ ?_)
    refine wg_done (by kernel_rfl) ?_
    refine qe_block ?_
    refine qe_seq ?_
    refine wc_region ?_
    refine vm rfl rfl ?_
    refine wl_val wn rfl (rv_add rfl rfl) ?_
    refine va rfl rfl ?_
    refine wl_nil ?_
    obtain rfl := oi h129
    have hS141 : SH _ _ _ _ _ [_, _, _, _, _, _] := SH.front (p := [_]) hS140
    have hS142 : SH _ _ _ _ _ [_, _, _, _, _, _] := SH.front (p := [_]) hS141
    have hS143 : SH _ _ _ _ _ [_, _, _, _, _, _] := SH.front (p := [_, _, _, _, _]) hS142
    have hS144 : SH _ _ _ _ _ [_, _, _, _, _, _] := SH.front (p := [_, _, _, _, _]) hS143
    have hS145 : SH _ _ _ _ _ [_, _, _, _] := SH.sublist hS144 (.cons_cons _ (.cons_cons _ (.cons_cons _ (.cons_cons _ (.cons _ (.cons _ .slnil))))))
    exact qe_mid' ⟨_, rfl, a130, n131, c132, K134, rfl, hS145, (((hl47.trans hS91.le).trans hl123).trans hl135), (w64_rng _), hl51, hl52, hs136⟩ ⟨rfl, rfl, rfl, rfl, rfl, rfl, rfl, trivial⟩
   ·have h99 := cond_f hb98 h88
    refine wc_skip ?_
    refine qe_block ?_
    refine qe_seq ?_
    refine wc_region ?_
    refine vm rfl rfl ?_
    refine wl_val wn rfl (rv_add rfl rfl) ?_
    refine va rfl rfl ?_
    refine wl_nil ?_
    obtain rfl := oi h99
    have hS146 : SH _ _ _ _ _ [_, _, _, _] := SH.sublist hS97 (.cons _ (.cons_cons _ (.cons_cons _ (.cons_cons _ (.cons_cons _ .slnil)))))
    exact qe_mid' ⟨_, rfl, a53, n54, c55, K89, rfl, hS146, (hl47.trans hS91.le), (w64_rng _), hl51, hl52, (SliceAt.mono hS91.le hs56)⟩ ⟨rfl, rfl, rfl, rfl, rfl, rfl, rfl, trivial⟩
  ·have h65 := cond_f hb64 h62
   refine wc_exit ?_
   refine qe_then_exit ?_
   refine qe_then_exit ?_
   obtain rfl := oi h65
   have e147 := hx63 _ rfl
   subst e147
   refine qe_block_eq ?_
   obtain rfl := oi h45
   have hS148 : SH _ _ _ _ _ [_, _, _] := SH.sublist hS49 (.cons _ (.cons_cons _ (.cons_cons _ (.cons_cons _ .slnil))))
   exact qe_mid' ⟨a53, n54, c55, K46, rfl, hS148, hl47, hl51, hl52, hs56⟩ ⟨rfl, rfl, trivial⟩
 ·rintro _ w34 ⟨a38, n39, c40, K32, rfl, hS35, hl33, hl36, hl37, hs41⟩
  refine qr ?_
  refine wl_val wn rfl (rv_loadmS (ds := [sv o29.Field, sv o29.Term, .slice a38 n39 c40]) tf60 rfl (.tail _ (.head _)) hS35 rfl rfl) ?_
  refine wl_store (cs' := [sv o29.Field, sv o29.Term, .slice a38 n39 c40]) (v := .agg #[sv o29.Field, sv o29.Term, .slice a38 n39 c40]) wn tf60 rfl rfl rfl (by simp [Value.cells, Value.oneCell', sv]) hS35 rfl rfl ?_
  intro w149 hS150
  refine nq ?_
  refine wc_ret ?_
  obtain rfl := oi h31
  have hS151 : SH _ _ _ _ _ [_] := SH.sublist hS150 (.cons _ (.cons _ (.cons_cons _ .slnil)))
  exact qe_ret (vs := [_]) Try.results107 ⟨⟨_, _, rfl, run_loadVar_at tf60 (cs := [sv o29.Field, sv o29.Term, .slice a38 n39 c40]) (fun j c e => by rw [Nat.zero_add, hS150.mem_obj (.head _)]; exact e) (.inl ⟨rfl, rfl, rfl⟩)⟩, trivial⟩ ⟨a38, n39, c40, K32, rfl, hS151, hl36, hl37, hs41⟩

theorem ok_spec_l7CopyDoc (F : Nat) {w : World} {K : KMap} {a2 : Option Addr} {n3 c4 : Nat} {a6 : Option Addr} {n7 c8 : Nat} {p0_d : GDoc} {r : GDoc} (hS : SH w K [] w K []) (hr1 : rng64 p0_d.Id) (hs5 : SliceAt tGField K a2 n3 c4 p0_d.Fields) (hs9 : SliceAt tGAttr K a6 n7 c8 p0_d.Nums) (hm : M.spec_l7CopyDoc F p0_d = some r) :
  Calls Try.prog 108 #[.agg #[.int .i64 p0_d.Id, .slice a2 n3 c4, .slice a6 n7 c8]] w fun e w' => ∃ (a_2 : Option Addr) (n_3 c_4 : Nat) (a_6 : Option Addr) (n_7 c_8 : Nat) (K' : KMap), e = .returned (.agg #[.int .i64 r.Id, .slice a_2 n_3 c_4, .slice a_6 n_7 c_8]) ∧ SH w K [] w' K' [tail (.slice a_2 n_3 c_4) 107 2, tail (.slice a_6 n_7 c_8) 133 2] ∧ rng64 r.Id ∧ SliceAt tGField K' a_2 n_3 c_4 r.Fields ∧ SliceAt tGAttr K' a_6 n_7 c_8 r.Nums := by
 rw [M.spec_l7CopyDoc] at hm
 refine calls_in Try.func108 rfl Try.ntmps108 rfl ?_
 refine sr ?_
 refine wl_box wn rfl rfl hS ?_
 intro g10 w11 hS12
 have hS13 : SH _ _ _ _ _ [obj g10 [.int .i64 p0_d.Id, .slice a2 n3 c4, .slice a6 n7 c8] 49] := hS12
 refine wl_alloc wn rfl tf49 hS13 ?_
 intro g14 w15 hS16
 have hS17 : SH _ _ _ _ _ [obj g14 [.int .i64 0, .slice none 0 0, .slice none 0 0] 49, _] := hS16
 refine ns ?_
 obtain ⟨x26, hx27, h28⟩ := ob hm
 obtain ⟨x43, hx44, h45⟩ := ob h28
 refine wc_held (fun w' => Holds K w' ∧ HasObj g10 [.int .i64 p0_d.Id, .slice a2 n3 c4, .slice a6 n7 c8] w') (fun w' => True) 12 [] mixed ?_
 have hS19 := SH.drew hS17
 refine wg_val (i := 0) (listed' := #[true, false, false, false, false, false, false, false, false, false, false, false]) (fun _ => True) rfl (by kernel_rfl) (pk_then pk_body) (by kernel_rfl) rfl (by kernel_rfl) (by kernel_rfl) rfl (.inl fun _ _ => trivial) ⟨⟨hS19.hasK (KLe.refl _), hS19.hasObj (.tail _ (.head _))⟩, (fun _ => trivial), by decide⟩ wn rfl (fun _ _ => (rv_fieldAddr ff49_0 rfl)) ?_
 refine wg_val (i := 1) (listed' := #[true, true, false, false, false, false, false, false, false, false, false, false]) (HasObj g10 [.int .i64 p0_d.Id, .slice a2 n3 c4, .slice a6 n7 c8]) rfl (by kernel_rfl) (pk_then pk_body) (by kernel_rfl) rfl (by kernel_rfl) (by kernel_rfl) rfl (.inl fun _ h => h.2) ⟨⟨hS19.hasK (KLe.refl _), hS19.hasObj (.tail _ (.head _))⟩, (fun _ => trivial), by decide⟩ wn rfl (fun _ h => rh_loadm1 tf3 rfl rfl h) ?_
 refine wg_val (i := 3) (listed' := #[true, true, false, true, false, false, false, false, false, false, false, false]) (fun _ => True) rfl (by kernel_rfl) (pk_then pk_body) (by kernel_rfl) rfl (by kernel_rfl) (by kernel_rfl) rfl (.inl fun _ _ => trivial) ⟨⟨hS19.hasK (KLe.refl _), hS19.hasObj (.tail _ (.head _))⟩, (fun _ => trivial), by decide⟩ wn rfl (fun _ _ => (rv_fieldAddr ff49_1 rfl)) ?_
 refine wg_val (i := 4) (listed' := #[true, true, false, true, true, false, false, false, false, false, false, false]) (HasObj g10 [.int .i64 p0_d.Id, .slice a2 n3 c4, .slice a6 n7 c8]) rfl (by kernel_rfl) (pk_then pk_body) (by kernel_rfl) rfl (by kernel_rfl) (by kernel_rfl) rfl (.inl fun _ h => h.2) ⟨⟨hS19.hasK (KLe.refl _), hS19.hasObj (.tail _ (.head _))⟩, (fun _ => trivial), by decide⟩ wn rfl (fun _ h => rh_loadm1 tf46 rfl rfl h) ?_
 refine wg_val (i := 7) (listed' := #[true, true, false, true, true, false, false, true, false, false, false, false]) (fun _ => True) rfl (by kernel_rfl) (pk_then pk_body) (by kernel_rfl) rfl (by kernel_rfl) (by kernel_rfl) rfl (.inl fun _ _ => trivial) ⟨⟨hS19.hasK (KLe.refl _), hS19.hasObj (.tail _ (.head _))⟩, (fun _ => trivial), by decide⟩ wn rfl (fun _ _ => (rv_fieldAddr ff49_2 rfl)) ?_
 refine wg_val (i := 8) (listed' := #[true, true, false, true, true, false, false, true, true, false, false, false]) (HasObj g10 [.int .i64 p0_d.Id, .slice a2 n3 c4, .slice a6 n7 c8]) rfl (by kernel_rfl) (pk_then pk_body) (by kernel_rfl) rfl (by kernel_rfl) (by kernel_rfl) rfl (.inl fun _ h => h.2) ⟨⟨hS19.hasK (KLe.refl _), hS19.hasObj (.tail _ (.head _))⟩, (fun _ => trivial), by decide⟩ wn rfl (fun _ h => rh_loadm1 tf47 rfl rfl h) ?_
 refine wg_many (l := [2, 6]) (by kernel_rfl) rfl ⟨⟨_, rfl, ?_⟩, ⟨_, rfl, ?_⟩, trivial⟩
 ·refine wl_buildSlice0 tGField wn rfl Try.underlying46 tf107 hS19 ?_
  intro a57 w58 K59 hl60 hs61 hS62
  refine wl_nil (qe_held (listed' := #[true, true, true, true, true, false, false, true, true, false, false, false]) rfl ⟨⟨hS62.hasK hl60, hS62.hasObj (.tail _ (.tail _ (.head _)))⟩, (fun _ => trivial), by decide⟩ ?_)
  refine wg_many (l := [5, 6]) (by kernel_rfl) rfl ⟨⟨_, rfl, ?_⟩, ⟨_, rfl, ?_⟩, trivial⟩
  ·refine wl_append (t := tGField) wn rfl Try.underlying46 tf107 rfl rfl rfl rfl rfl hs61 (SliceAt.mono hl60 hs5) hx27 hS62 ?_
   intro a63 n64 c65 w66 K67 hl68 hs69 hS70
   refine wl_nil (qe_held (listed' := #[true, true, true, true, true, true, false, true, true, false, false, false]) rfl ⟨⟨hS70.hasK (hl60.trans hl68), hS70.hasObj (.tail _ (.tail _ (.head _)))⟩, (fun _ => trivial), by decide⟩ ?_)
   refine wg_one (i := 6) (by kernel_rfl) rfl ?_
   refine wl_buildSlice0 tGAttr wn rfl Try.underlying47 tf133 hS70 ?_
   intro a71 w72 K73 hl74 hs75 hS76
   refine wl_nil (qe_held (listed' := #[true, true, true, true, true, true, true, true, true, false, false, false]) rfl ⟨⟨hS76.hasK ((hl60.trans hl68).trans hl74), hS76.hasObj (.tail _ (.tail _ (.tail _ (.head _))))⟩, (fun _ => trivial), by decide⟩ ?_)
   refine wg_one (i := 9) (by kernel_rfl) rfl ?_
   refine wl_append (t := tGAttr) wn rfl Try.underlying47 tf133 rfl rfl rfl rfl rfl hs75 (SliceAt.mono ((hl60.trans hl68).trans hl74) hs9) hx44 hS76 ?_
   intro a77 n78 c79 w80 K81 hl82 hs83 hS84
   refine wl_nil (qe_held (listed' := #[true, true, true, true, true, true, true, true, true, true, false, false]) rfl ⟨⟨hS84.hasK (((hl60.trans hl68).trans hl74).trans hl82), hS84.hasObj (.tail _ (.tail _ (.tail _ (.head _))))⟩, (fun _ => trivial), by decide⟩ ?_)
   refine wg_val (i := 10) (listed' := #[true, true, true, true, true, true, true, true, true, true, true, false]) (fun _ => True) rfl (by kernel_rfl) (pk_then pk_body) (by kernel_rfl) rfl (by kernel_rfl) (by kernel_rfl) rfl (.inl fun _ _ => trivial) ⟨⟨hS84.hasK (((hl60.trans hl68).trans hl74).trans hl82), hS84.hasObj (.tail _ (.tail _ (.tail _ (.head _))))⟩, (fun _ => trivial), by decide⟩ wn rfl (fun _ _ => (rv_build (cs := #[.int .i64 p0_d.Id, .slice a63 n64 c65, .slice a77 n78 c79]) sp49 tf49 rfl (by kernel_rfl))) ?_
   refine wg_one (i := 11) (by kernel_rfl) rfl ?_
   have hS85 : SH _ _ _ _ _ [_, _, _, _] := SH.front (p := [_, _]) hS84
   refine wl_store (cs' := [.int .i64 p0_d.Id, .slice a63 n64 c65, .slice a77 n78 c79]) (v := .agg #[.int .i64 p0_d.Id, .slice a63 n64 c65, .slice a77 n78 c79]) wn tf49 rfl rfl rfl (by simp [Value.cells, Value.oneCell']) hS85 rfl rfl ?_
   intro w86 hS87
   refine wl_nil (qe_held (listed' := #[true, true, true, true, true, true, true, true, true, true, true, true]) rfl ⟨⟨hS87.hasK (((hl60.trans hl68).trans hl74).trans hl82), hS87.hasObj (.tail _ (.tail _ (.tail _ (.head _))))⟩, (fun _ => trivial), by decide⟩ ?_)
   refine wg_done (by kernel_rfl) ?_
   refine qe_seq ?_
   refine wc_ret ?_
   obtain rfl := oi h45
   have hS88 : SH _ _ _ _ _ [_, _, _, _] := SH.front (p := [_]) hS87
   have hS89 : SH _ _ _ _ _ [_, _, _, _] := SH.front (p := [_, _]) hS88
   have hS90 : SH _ _ _ _ _ [_, _] := SH.sublist hS89 (.cons_cons _ (.cons_cons _ (.cons _ (.cons _ .slnil))))
   exact qe_ret (vs := [_]) Try.results108 ⟨⟨_, _, rfl, run_loadVar_at tf49 (cs := [.int .i64 p0_d.Id, .slice a63 n64 c65, .slice a77 n78 c79]) (fun j c e => by rw [Nat.zero_add, hS87.mem_obj (.head _)]; exact e) (.inl ⟨rfl, rfl, rfl⟩)⟩, trivial⟩ ⟨a63, n64, c65, a77, n78, c79, K81, rfl, hS90, hr1, (SliceAt.mono (hl74.trans hl82) hs69), hs83⟩
  ·refine wl_buildSlice0 tGAttr wn rfl Try.underlying47 tf133 hS62 ?_
   intro a91 w92 K93 hl94 hs95 hS96
   refine wl_nil (qe_held (listed' := #[true, true, true, true, true, false, true, true, true, false, false, false]) rfl ⟨⟨hS96.hasK (hl60.trans hl94), hS96.hasObj (.tail _ (.tail _ (.tail _ (.head _))))⟩, (fun _ => trivial), by decide⟩ ?_)
   refine wg_one (i := 5) (by kernel_rfl) rfl ?_
   have hS97 : SH _ _ _ _ _ [_, _, _, _] := SH.front (p := [_]) hS96
   refine wl_append (t := tGField) wn rfl Try.underlying46 tf107 rfl rfl rfl rfl rfl (SliceAt.mono hl94 hs61) (SliceAt.mono (hl60.trans hl94) hs5) hx27 hS97 ?_
   intro a98 n99 c100 w101 K102 hl103 hs104 hS105
   refine wl_nil (qe_held (listed' := #[true, true, true, true, true, true, true, true, true, false, false, false]) rfl ⟨⟨hS105.hasK ((hl60.trans hl94).trans hl103), hS105.hasObj (.tail _ (.tail _ (.tail _ (.head _))))⟩, (fun _ => trivial), by decide⟩ ?_)
   refine wg_one (i := 9) (by kernel_rfl) rfl ?_
   have hS106 : SH _ _ _ _ _ [_, _, _, _] := SH.front (p := [_]) hS105
   refine wl_append (t := tGAttr) wn rfl Try.underlying47 tf133 rfl rfl rfl rfl rfl (SliceAt.mono hl103 hs95) (SliceAt.mono ((hl60.trans hl94).trans hl103) hs9) hx44 hS106 ?_
   intro a107 n108 c109 w110 K111 hl112 hs113 hS114
   refine wl_nil (qe_held (listed' := #[true, true, true, true, true, true, true, true, true, true, false, false]) rfl ⟨⟨hS114.hasK (((hl60.trans hl94).trans hl103).trans hl112), hS114.hasObj (.tail _ (.tail _ (.tail _ (.head _))))⟩, (fun _ => trivial), by decide⟩ ?_)
   refine wg_val (i := 10) (listed' := #[true, true, true, true, true, true, true, true, true, true, true, false]) (fun _ => True) rfl (by kernel_rfl) (pk_then pk_body) (by kernel_rfl) rfl (by kernel_rfl) (by kernel_rfl) rfl (.inl fun _ _ => trivial) ⟨⟨hS114.hasK (((hl60.trans hl94).trans hl103).trans hl112), hS114.hasObj (.tail _ (.tail _ (.tail _ (.head _))))⟩, (fun _ => trivial), by decide⟩ wn rfl (fun _ _ => (rv_build (cs := #[.int .i64 p0_d.Id, .slice a98 n99 c100, .slice a107 n108 c109]) sp49 tf49 rfl (by kernel_rfl))) ?_
   refine wg_one (i := 11) (by kernel_rfl) rfl ?_
   have hS115 : SH _ _ _ _ _ [_, _, _, _] := SH.front (p := [_, _]) hS114
   refine wl_store (cs' := [.int .i64 p0_d.Id, .slice a98 n99 c100, .slice a107 n108 c109]) (v := .agg #[.int .i64 p0_d.Id, .slice a98 n99 c100, .slice a107 n108 c109]) wn tf49 rfl rfl rfl (by simp [Value.cells, Value.oneCell']) hS115 rfl rfl ?_
   intro w116 hS117
   refine wl_nil (qe_held (listed' := #[true, true, true, true, true, true, true, true, true, true, true, true]) rfl ⟨⟨hS117.hasK (((hl60.trans hl94).trans hl103).trans hl112), hS117.hasObj (.tail _ (.tail _ (.tail _ (.head _))))⟩, (fun _ => trivial), by decide⟩ ?_)
   refine wg_done (by kernel_rfl) ?_
   refine qe_seq ?_
   refine wc_ret ?_
   obtain rfl := oi h45
   have hS118 : SH _ _ _ _ _ [_, _, _, _] := SH.front (p := [_]) hS117
   have hS119 : SH _ _ _ _ _ [_, _, _, _] := SH.front (p := [_, _]) hS118
   have hS120 : SH _ _ _ _ _ [_, _] := SH.sublist hS119 (.cons_cons _ (.cons_cons _ (.cons _ (.cons _ .slnil))))
   exact qe_ret (vs := [_]) Try.results108 ⟨⟨_, _, rfl, run_loadVar_at tf49 (cs := [.int .i64 p0_d.Id, .slice a98 n99 c100, .slice a107 n108 c109]) (fun j c e => by rw [Nat.zero_add, hS117.mem_obj (.head _)]; exact e) (.inl ⟨rfl, rfl, rfl⟩)⟩, trivial⟩ ⟨a98, n99, c100, a107, n108, c109, K111, rfl, hS120, hr1, (SliceAt.mono hl112 hs104), hs113⟩
 ·refine wl_buildSlice0 tGAttr wn rfl Try.underlying47 tf133 hS19 ?_
  intro a121 w122 K123 hl124 hs125 hS126
  refine wl_nil (qe_held (listed' := #[true, true, false, true, true, false, true, true, true, false, false, false]) rfl ⟨⟨hS126.hasK hl124, hS126.hasObj (.tail _ (.tail _ (.head _)))⟩, (fun _ => trivial), by decide⟩ ?_)
  refine wg_one (i := 2) (by kernel_rfl) rfl ?_
  refine wl_buildSlice0 tGField wn rfl Try.underlying46 tf107 hS126 ?_
  intro a127 w128 K129 hl130 hs131 hS132
  refine wl_nil (qe_held (listed' := #[true, true, true, true, true, false, true, true, true, false, false, false]) rfl ⟨⟨hS132.hasK (hl124.trans hl130), hS132.hasObj (.tail _ (.tail _ (.tail _ (.head _))))⟩, (fun _ => trivial), by decide⟩ ?_)
  refine wg_one (i := 5) (by kernel_rfl) rfl ?_
  refine wl_append (t := tGField) wn rfl Try.underlying46 tf107 rfl rfl rfl rfl rfl hs131 (SliceAt.mono (hl124.trans hl130) hs5) hx27 hS132 ?_
  intro a133 n134 c135 w136 K137 hl138 hs139 hS140
  refine wl_nil (qe_held (listed' := #[true, true, true, true, true, true, true, true, true, false, false, false]) rfl ⟨⟨hS140.hasK ((hl124.trans hl130).trans hl138), hS140.hasObj (.tail _ (.tail _ (.tail _ (.head _))))⟩, (fun _ => trivial), by decide⟩ ?_)
  refine wg_one (i := 9) (by kernel_rfl) rfl ?_
  have hS141 : SH _ _ _ _ _ [_, _, _, _] := SH.front (p := [_]) hS140
  refine wl_append (t := tGAttr) wn rfl Try.underlying47 tf133 rfl rfl rfl rfl rfl (SliceAt.mono (hl130.trans hl138) hs125) (SliceAt.mono ((hl124.trans hl130).trans hl138) hs9) hx44 hS141 ?_
  intro a142 n143 c144 w145 K146 hl147 hs148 hS149
  refine wl_nil (qe_held (listed' := #[true, true, true, true, true, true, true, true, true, true, false, false]) rfl ⟨⟨hS149.hasK (((hl124.trans hl130).trans hl138).trans hl147), hS149.hasObj (.tail _ (.tail _ (.tail _ (.head _))))⟩, (fun _ => trivial), by decide⟩ ?_)
  refine wg_val (i := 10) (listed' := #[true, true, true, true, true, true, true, true, true, true, true, false]) (fun _ => True) rfl (by kernel_rfl) (pk_then pk_body) (by kernel_rfl) rfl (by kernel_rfl) (by kernel_rfl) rfl (.inl fun _ _ => trivial) ⟨⟨hS149.hasK (((hl124.trans hl130).trans hl138).trans hl147), hS149.hasObj (.tail _ (.tail _ (.tail _ (.head _))))⟩, (fun _ => trivial), by decide⟩ wn rfl (fun _ _ => (rv_build (cs := #[.int .i64 p0_d.Id, .slice a133 n134 c135, .slice a142 n143 c144]) sp49 tf49 rfl (by kernel_rfl))) ?_
  refine wg_one (i := 11) (by kernel_rfl) rfl ?_
  have hS150 : SH _ _ _ _ _ [_, _, _, _] := SH.front (p := [_, _]) hS149
  refine wl_store (cs' := [.int .i64 p0_d.Id, .slice a133 n134 c135, .slice a142 n143 c144]) (v := .agg #[.int .i64 p0_d.Id, .slice a133 n134 c135, .slice a142 n143 c144]) wn tf49 rfl rfl rfl (by simp [Value.cells, Value.oneCell']) hS150 rfl rfl ?_
  intro w151 hS152
  refine wl_nil (qe_held (listed' := #[true, true, true, true, true, true, true, true, true, true, true, true]) rfl ⟨⟨hS152.hasK (((hl124.trans hl130).trans hl138).trans hl147), hS152.hasObj (.tail _ (.tail _ (.tail _ (.head _))))⟩, (fun _ => trivial), by decide⟩ ?_)
  refine wg_done (by kernel_rfl) ?_
  refine qe_seq ?_
  refine wc_ret ?_
  obtain rfl := oi h45
  have hS153 : SH _ _ _ _ _ [_, _, _, _] := SH.front (p := [_]) hS152
  have hS154 : SH _ _ _ _ _ [_, _, _, _] := SH.front (p := [_, _]) hS153
  have hS155 : SH _ _ _ _ _ [_, _] := SH.sublist hS154 (.cons_cons _ (.cons_cons _ (.cons _ (.cons _ .slnil))))
  exact qe_ret (vs := [_]) Try.results108 ⟨⟨_, _, rfl, run_loadVar_at tf49 (cs := [.int .i64 p0_d.Id, .slice a133 n134 c135, .slice a142 n143 c144]) (fun j c e => by rw [Nat.zero_add, hS152.mem_obj (.head _)]; exact e) (.inl ⟨rfl, rfl, rfl⟩)⟩, trivial⟩ ⟨a133, n134, c135, a142, n143, c144, K146, rfl, hS155, hr1, (SliceAt.mono hl147 hs139), hs148⟩

set_option maxHeartbeats 2000000 in
theorem ok_spec_l7Of (F : Nat) {w : World} {K : KMap} {a1 : Option Addr} {n2 c3 : Nat} {a5 : Option Addr} {n6 c7 : Nat} {a9 : Option Addr} {n10 c11 : Nat} {p0_c : GConf} {p1_docs : List GDoc} {r : GSeg} (hS : SH w K [] w K []) (hs4 : SliceAt tStr K a1 n2 c3 p0_c.Stops) (hs8 : SliceAt tGSyn K a5 n6 c7 p0_c.Syns) (hs12 : SliceAt tGDoc K a9 n10 c11 p1_docs) (hm : M.spec_l7Of F p0_c p1_docs = some r) :
  Calls Try.prog 68 #[.agg #[.slice a1 n2 c3, .slice a5 n6 c7], .slice a9 n10 c11] w fun e w' => ∃ (a_1 : Option Addr) (n_2 c_3 : Nat) (a_5 : Option Addr) (n_6 c_7 : Nat) (cs_8 : List Value) (K' : KMap), e = .returned (.agg #[.slice a_1 n_2 c_3, .slice a_5 n_6 c_7]) ∧ SH w K [] w' K' [tail (.slice a_1 n_2 c_3) 49 3, rowI (.slice a_5 n_6 c_7) cs_8 60 3] ∧ SliceAt tGDoc K' a_1 n_2 c_3 r.Docs ∧ RowAt true tGEntry K' cs_8 r.Entries ∧ n_6 = r.Entries.length := by
 rw [M.spec_l7Of] at hm
 refine calls_in Try.func68 rfl Try.ntmps68 rfl ?_
 refine sr ?_
 refine wl_box wn rfl rfl hS ?_
 intro g13 w14 hS15
 have hS16 : SH _ _ _ _ _ [obj g13 [.slice a1 n2 c3, .slice a5 n6 c7] 39] := hS15
 refine wl_alloc wn rfl tf42 hS16 ?_
 intro g17 w18 hS19
 have hS20 : SH _ _ _ _ _ [obj g17 [.slice none 0 0, .slice none 0 0] 42, _] := hS19
 refine nr ?_
 refine wl_val wn rfl (rv_build (cs := #[.slice none 0 0, .slice none 0 0]) sp42 tf42 rfl (by kernel_rfl)) ?_
 refine wl_alloc wn rfl tf42 hS20 ?_
 intro g21 w22 hS23
 have hS24 : SH _ _ _ _ _ [obj g21 [.slice none 0 0, .slice none 0 0] 42, _, _] := hS23
 refine wl_store (cs' := [.slice none 0 0, .slice none 0 0]) (v := .agg #[.slice none 0 0, .slice none 0 0]) wn tf42 rfl rfl rfl (by simp [Value.cells, Value.oneCell']) hS24 rfl rfl ?_
 intro w25 hS26
 refine nr ?_
 refine vm rfl rfl ?_
 obtain ⟨r27, hx28, h29⟩ := ob hm
 refine wl_call wn rfl (rt_call (vs := [.slice a9 n10 c11]) co105 rfl) ((ok_spec_l7Names F) hS26.enter0 hs12 hx28) ?_
 rintro e37 w31 ⟨a33, n34, c35, K30, rfl, hS32, hs36⟩
 refine ⟨_, rfl, ?_⟩
 have hS38 : SH _ _ _ _ _ [_, _, _, _] := SH.call0 hS26 hS32
 refine va rfl rfl ?_
 refine nsr ?_
 refine wl_val wn rfl (rv_assign (v := .int .i64 0) rfl) ?_
 refine nq ?_
 obtain ⟨o39, h40, h41⟩ := ob h29
 refine wc_cutg (fun E' w' => ∃ (a46 : Option Addr) (n47 c48 : Nat) (a50 : Option Addr) (n51 c52 : Nat) (cs53 : List Value) (K42 : KMap), E' = [(1, .slice a9 n10 c11), (4, .pointer (some ⟨g17, 0, none⟩)), (5, .pointer (some ⟨g21, 0, none⟩))] ∧ SH w K [] w' K42 [obj g17 [.slice none 0 0, .slice none 0 0] 42, obj g21 [.slice a46 n47 c48, .slice a50 n51 c52] 42, rowI (.slice a50 n51 c52) cs53 60 3, tail (.slice a46 n47 c48) 49 3] ∧ KLe K30 K42 ∧ SliceAt tGDoc K42 a46 n47 c48 o39.Docs ∧ RowAt true tGEntry K42 cs53 o39.Entries ∧ n51 = o39.Entries.length) ?_ ?_
 ·refine wc_block ?_
  obtain ⟨r57, h58, h59⟩ := ob h40
  have hS75 := SH.rowNil hS38 60 3
  have hS76 := SH.nil hS75 49 3
  have hS77 : SH _ _ _ _ _ [_, _, _, _, _, _] := SH.front (p := [_]) hS76
  have hS78 : SH _ _ _ _ _ [_, _, _, _, _, _] := SH.front (p := [_, _, _]) hS77
  have hS79 : SH _ _ _ _ _ [_, _, _, _, _, _] := SH.front (p := [_, _, _, _]) hS78
  have hS80 : SH _ _ _ _ _ [_, _, _, _, _, _] := SH.front (p := [_, _, _, _, _]) hS79
  have hS81 : SH _ _ _ _ _ [_, _, _, _, _] := SH.sublist hS80 (.cons_cons _ (.cons_cons _ (.cons_cons _ (.cons_cons _ (.cons_cons _ (.cons _ .slnil))))))
  refine wc_while' (fun (s56 : Int × GSeg) E' w' => ∃ (a65 : Option Addr) (n66 c67 : Nat) (a69 : Option Addr) (n70 c71 : Nat) (cs72 : List Value) (K60 : KMap), E' = [(1, .slice a9 n10 c11), (2, .pointer (some ⟨g13, 0, none⟩)), (4, .pointer (some ⟨g17, 0, none⟩)), (5, .pointer (some ⟨g21, 0, none⟩)), (6, .slice a33 n34 c35), (7, .int .i64 s56.1)] ∧ SH w K [] w' K60 [obj g13 [.slice a1 n2 c3, .slice a5 n6 c7] 39, obj g17 [.slice none 0 0, .slice none 0 0] 42, obj g21 [.slice a65 n66 c67, .slice a69 n70 c71] 42, rowI (.slice a69 n70 c71) cs72 60 3, tail (.slice a65 n66 c67) 49 3] ∧ KLe K30 K60 ∧ rng64 s56.1 ∧ SliceAt tGDoc K60 a65 n66 c67 s56.2.Docs ∧ RowAt true tGEntry K60 cs72 s56.2.Entries ∧ n70 = s56.2.Entries.length) h58 ⟨none, 0, 0, none, 0, 0, [], K30, rfl, hS81, (KLe.refl _), (by decide : rng64 0), (SliceAt.nil _ _), (RowAt.nil tGEntry _), rfl⟩ ⟨rfl, rfl, rfl, rfl, rfl, rfl, trivial⟩ ?_
  rintro s56 _ w62 r82 h83 hx84 ⟨a65, n66, c67, a69, n70, c71, cs72, K60, rfl, hS63, hl61, hr64, hs68, hrow73, hm74⟩
  refine wc_seq ?_
  refine sr ?_
  refine vm rfl rfl ?_
  refine vm rfl rfl ?_
  refine wl_val wn rfl (rv_len (t := tStr) Try.underlying36 rfl (SliceAt.mono hl61 hs36)) ?_
  refine wl_val wn rfl (rv_lss rfl rfl) ?_
  refine nq ?_
  refine wc_cond rfl (fun hb85 => ?_) (fun hb85 => ?_)
  ·have h86 := cond_t hb85 h83
   refine wc_skip ?_
   refine qs ?_
   refine wc_block ?_
   refine wc_seq ?_
   refine wc_held (fun w' => Holds K60 w' ∧ HasObj g13 [.slice a1 n2 c3, .slice a5 n6 c7] w') (fun w' => True) 8 [] mixed ?_
   have hS88 := SH.drew hS63
   refine wg_val (i := 0) (listed' := #[true, false, false, false, false, false, false, false]) (HasObj g13 [.slice a1 n2 c3, .slice a5 n6 c7]) rfl (by kernel_rfl) (pk_then (pk_block (pk_then (pk_then (pk_block (pk_then (pk_then pk_body))))))) (by kernel_rfl) rfl (by kernel_rfl) (by kernel_rfl) rfl (.inl fun _ h => h.2) ⟨⟨hS88.hasK (KLe.refl _), hS88.hasObj (.head _)⟩, (fun _ => trivial), by decide⟩ wn rfl (fun _ h => rh_loadmS (ds := [.slice a1 n2 c3, .slice a5 n6 c7]) tf39 rfl rfl rfl h) ?_
   refine wg_val (i := 1) (listed' := #[true, true, false, false, false, false, false, false]) (fun _ => True) rfl (by kernel_rfl) (pk_then (pk_block (pk_then (pk_then (pk_block (pk_then (pk_then pk_body))))))) (by kernel_rfl) rfl (by kernel_rfl) (by kernel_rfl) rfl (.inl fun _ _ => trivial) ⟨⟨hS88.hasK (KLe.refl _), hS88.hasObj (.head _)⟩, (fun _ => trivial), by decide⟩ wn rfl (fun _ _ => (rv_move rfl)) ?_
   refine wg_val (i := 2) (listed' := #[true, true, true, false, false, false, false, false]) (fun _ => True) rfl (by kernel_rfl) (pk_then (pk_block (pk_then (pk_then (pk_block (pk_then (pk_then pk_body))))))) (by kernel_rfl) rfl (by kernel_rfl) (by kernel_rfl) rfl (.inl fun _ _ => trivial) ⟨⟨hS88.hasK (KLe.refl _), hS88.hasObj (.head _)⟩, (fun _ => trivial), by decide⟩ wn rfl (fun _ _ => (rv_move rfl)) ?_
   refine wg_val (i := 3) (listed' := #[true, true, true, true, false, false, false, false]) (fun _ => True) rfl (by kernel_rfl) (pk_then (pk_block (pk_then (pk_then (pk_block (pk_then (pk_then pk_body))))))) (by kernel_rfl) rfl (by kernel_rfl) (by kernel_rfl) rfl (.inl fun _ _ => trivial) ⟨⟨hS88.hasK (KLe.refl _), hS88.hasObj (.head _)⟩, (fun _ => trivial), by decide⟩ wn rfl (fun _ _ => (rv_move rfl)) ?_
   obtain ⟨x89, hx90, h91⟩ := ob h86
   refine wg_indexAddr (t := tStr) (j := 4) (listed' := #[true, true, true, true, true, false, false, false]) rfl (by kernel_rfl) (pk_then (pk_block (pk_then (pk_then (pk_block (pk_then (pk_then pk_body))))))) (by kernel_rfl) rfl (by kernel_rfl) (by kernel_rfl) rfl ⟨⟨hS88.hasK (KLe.refl _), hS88.hasObj (.head _)⟩, (fun _ => trivial), by decide⟩ wn rfl Try.underlying36 tf9 rfl rfl (SliceAt.mono hl61 hs36) hx90 ?_
   intro b92 o93 u94 hu95 ha96
   obtain ⟨rfl, hl97⟩ := hu95
   have ha98 : AtK _ b92 o93 [sv x89] := ha96
   refine wg_val (i := 5) (listed' := #[true, true, true, true, true, true, false, false]) (Holds K60) rfl (by kernel_rfl) (pk_then (pk_block (pk_then (pk_then (pk_block (pk_then (pk_then pk_body))))))) (by kernel_rfl) rfl (by kernel_rfl) (by kernel_rfl) rfl (.inl fun _ h => h.1) ⟨⟨hS88.hasK (KLe.refl _), hS88.hasObj (.head _)⟩, (fun _ => trivial), by decide⟩ wn rfl (fun _ h => rh_load1 tf9 rfl (ha98 0 _ rfl) h) ?_
   refine wg_one (i := 6) (by kernel_rfl) rfl ?_
   obtain ⟨r99, hx100, h101⟩ := ob h91
   refine wl_call wn rfl (rt_call (vs := [.agg #[.slice a1 n2 c3, .slice a5 n6 c7], .slice a9 n10 c11, sv x89]) co106 rfl) ((ok_spec_l7Terms F) hS88.enter0 (SliceAt.mono (hS32.le.trans hl61) hs4) (SliceAt.mono (hS32.le.trans hl61) hs8) (SliceAt.mono (hS32.le.trans hl61) hs12) hl97 hx100) ?_
   rintro e109 w103 ⟨a105, n106, c107, K102, rfl, hS104, hs108⟩
   refine ⟨_, rfl, ?_⟩
   have hS110 : SH _ _ _ _ _ [_, _, _, _, _, _] := SH.call0 hS88 hS104
   refine wl_nil (qe_held (listed' := #[true, true, true, true, true, true, true, false]) rfl ⟨⟨hS110.hasK hS104.le, hS110.hasObj (.tail _ (.head _))⟩, (fun _ => trivial), by decide⟩ ?_)
   refine wg_val (i := 7) (listed' := #[true, true, true, true, true, true, true, true]) (fun _ => True) rfl (by kernel_rfl) (pk_then (pk_block (pk_then (pk_then (pk_block (pk_then (pk_then pk_body))))))) (by kernel_rfl) rfl (by kernel_rfl) (by kernel_rfl) rfl (.inl fun _ _ => trivial) ⟨⟨hS110.hasK hS104.le, hS110.hasObj (.tail _ (.head _))⟩, (fun _ => trivial), by decide⟩ wn rfl (fun _ _ => (rv_assign rfl)) ?_
   refine wg_done (by kernel_rfl) ?_
   refine qr ?_
   refine wl_val wn rfl (rv_assign (v := .int .i64 0) rfl) ?_
   refine nq ?_
   obtain ⟨o111, h112, h113⟩ := ob h101
   refine wc_cutg (fun E' w' => ∃ (a118 : Option Addr) (n119 c120 : Nat) (a122 : Option Addr) (n123 c124 : Nat) (cs125 : List Value) (K114 : KMap), E' = [(1, .slice a9 n10 c11), (2, .pointer (some ⟨g13, 0, none⟩)), (4, .pointer (some ⟨g17, 0, none⟩)), (5, .pointer (some ⟨g21, 0, none⟩)), (6, .slice a33 n34 c35), (7, .int .i64 s56.1)] ∧ SH w K [] w' K114 [obj g13 [.slice a1 n2 c3, .slice a5 n6 c7] 39, obj g17 [.slice none 0 0, .slice none 0 0] 42, obj g21 [.slice a118 n119 c120, .slice a122 n123 c124] 42, rowI (.slice a122 n123 c124) cs125 60 3, tail (.slice a118 n119 c120) 49 3] ∧ KLe K102 K114 ∧ SliceAt tGDoc K114 a118 n119 c120 o111.Docs ∧ RowAt true tGEntry K114 cs125 o111.Entries ∧ n123 = o111.Entries.length) ?_ ?_
   ·refine wc_block ?_
    obtain ⟨r129, h130, h131⟩ := ob h112
    have hS147 : SH _ _ _ _ _ [_, _, _, _, _] := SH.sublist hS110 (.cons _ (.cons_cons _ (.cons_cons _ (.cons_cons _ (.cons_cons _ (.cons_cons _ .slnil))))))
    refine wc_while' (fun (s128 : Int × GSeg) E' w' => ∃ (a137 : Option Addr) (n138 c139 : Nat) (a141 : Option Addr) (n142 c143 : Nat) (cs144 : List Value) (K132 : KMap), E' = [(1, .slice a9 n10 c11), (2, .pointer (some ⟨g13, 0, none⟩)), (4, .pointer (some ⟨g17, 0, none⟩)), (5, .pointer (some ⟨g21, 0, none⟩)), (6, .slice a33 n34 c35), (7, .int .i64 s56.1), (8, .slice a105 n106 c107), (9, .int .i64 s128.1)] ∧ SH w K [] w' K132 [obj g13 [.slice a1 n2 c3, .slice a5 n6 c7] 39, obj g17 [.slice none 0 0, .slice none 0 0] 42, obj g21 [.slice a137 n138 c139, .slice a141 n142 c143] 42, rowI (.slice a141 n142 c143) cs144 60 3, tail (.slice a137 n138 c139) 49 3] ∧ KLe K102 K132 ∧ rng64 s128.1 ∧ SliceAt tGDoc K132 a137 n138 c139 s128.2.Docs ∧ RowAt true tGEntry K132 cs144 s128.2.Entries ∧ n142 = s128.2.Entries.length) h130 ⟨a65, n66, c67, a69, n70, c71, cs72, K102, rfl, hS147, (KLe.refl _), (by decide : rng64 0), (SliceAt.mono hS104.le hs68), (RowAt.mono hS104.le hrow73), hm74⟩ ⟨rfl, rfl, rfl, rfl, rfl, rfl, rfl, rfl, trivial⟩ ?_
    rintro s128 _ w134 r148 h149 hx150 ⟨a137, n138, c139, a141, n142, c143, cs144, K132, rfl, hS135, hl133, hr136, hs140, hrow145, hm146⟩
    refine wc_seq ?_
    refine sr ?_
    refine vm rfl rfl ?_
    refine vm rfl rfl ?_
    refine wl_val wn rfl (rv_len (t := tStr) Try.underlying36 rfl (SliceAt.mono hl133 hs108)) ?_
    refine wl_val wn rfl (rv_lss rfl rfl) ?_
    refine nq ?_
    refine wc_cond rfl (fun hb151 => ?_) (fun hb151 => ?_)
    ·have h152 := cond_t hb151 h149
     refine wc_skip ?_
     refine qs ?_
     refine wc_block ?_
     refine wc_held (fun w' => Holds K132 w' ∧ HasObj g13 [.slice a1 n2 c3, .slice a5 n6 c7] w') (fun w' => HasObj g21 [.slice a137 n138 c139, .slice a141 n142 c143] w') 16 [(1, 14), (1, 15), (1, 16), (14, 15), (14, 16), (15, 16)] mixed ?_
     have hS154 := SH.drew hS135
     refine wg_val (i := 0) (listed' := #[true, false, false, false, false, false, false, false, false, false, false, false, false, false, false, false, false]) (fun _ => True) rfl (by kernel_rfl) (pk_block (pk_then (pk_then (pk_block (pk_then (pk_block (pk_then (pk_then (pk_block (pk_then (pk_then pk_body))))))))))) (by kernel_rfl) rfl (by kernel_rfl) (by kernel_rfl) rfl (.inl fun _ _ => trivial) ⟨⟨hS154.hasK (KLe.refl _), hS154.hasObj (.head _)⟩, (fun _ => hS154.hasObj (.tail _ (.tail _ (.head _)))), by decide⟩ wn rfl (fun _ _ => (rv_fieldAddr ff42_1 rfl)) ?_
     refine wg_val (i := 1) (listed' := #[true, true, false, false, false, false, false, false, false, false, false, false, false, false, false, false, false]) (HasObj g21 [.slice a137 n138 c139, .slice a141 n142 c143]) rfl (by kernel_rfl) (pk_block (pk_then (pk_then (pk_block (pk_then (pk_block (pk_then (pk_then (pk_block (pk_then (pk_then pk_body))))))))))) (by kernel_rfl) rfl (by kernel_rfl) (by kernel_rfl) rfl (.inr ⟨rfl, fun _ _ h => h⟩) ⟨⟨hS154.hasK (KLe.refl _), hS154.hasObj (.head _)⟩, (fun _ => hS154.hasObj (.tail _ (.tail _ (.head _)))), by decide⟩ wn rfl (fun _ h => rh_loadm1 tf40 rfl rfl h) ?_
     refine wg_val (i := 2) (listed' := #[true, true, true, false, false, false, false, false, false, false, false, false, false, false, false, false, false]) (HasObj g13 [.slice a1 n2 c3, .slice a5 n6 c7]) rfl (by kernel_rfl) (pk_block (pk_then (pk_then (pk_block (pk_then (pk_block (pk_then (pk_then (pk_block (pk_then (pk_then pk_body))))))))))) (by kernel_rfl) rfl (by kernel_rfl) (by kernel_rfl) rfl (.inl fun _ h => h.2) ⟨⟨hS154.hasK (KLe.refl _), hS154.hasObj (.head _)⟩, (fun _ => hS154.hasObj (.tail _ (.tail _ (.head _)))), by decide⟩ wn rfl (fun _ h => rh_loadmS (ds := [.slice a1 n2 c3, .slice a5 n6 c7]) tf39 rfl rfl rfl h) ?_
     refine wg_val (i := 3) (listed' := #[true, true, true, true, false, false, false, false, false, false, false, false, false, false, false, false, false]) (fun _ => True) rfl (by kernel_rfl) (pk_block (pk_then (pk_then (pk_block (pk_then (pk_block (pk_then (pk_then (pk_block (pk_then (pk_then pk_body))))))))))) (by kernel_rfl) rfl (by kernel_rfl) (by kernel_rfl) rfl (.inl fun _ _ => trivial) ⟨⟨hS154.hasK (KLe.refl _), hS154.hasObj (.head _)⟩, (fun _ => hS154.hasObj (.tail _ (.tail _ (.head _)))), by decide⟩ wn rfl (fun _ _ => (rv_move rfl)) ?_
     refine wg_val (i := 4) (listed' := #[true, true, true, true, true, false, false, false, false, false, false, false, false, false, false, false, false]) (fun _ => True) rfl (by kernel_rfl) (pk_block (pk_then (pk_then (pk_block (pk_then (pk_block (pk_then (pk_then (pk_block (pk_then (pk_then pk_body))))))))))) (by kernel_rfl) rfl (by kernel_rfl) (by kernel_rfl) rfl (.inl fun _ _ => trivial) ⟨⟨hS154.hasK (KLe.refl _), hS154.hasObj (.head _)⟩, (fun _ => hS154.hasObj (.tail _ (.tail _ (.head _)))), by decide⟩ wn rfl (fun _ _ => (rv_move rfl)) ?_
     refine wg_val (i := 5) (listed' := #[true, true, true, true, true, true, false, false, false, false, false, false, false, false, false, false, false]) (fun _ => True) rfl (by kernel_rfl) (pk_block (pk_then (pk_then (pk_block (pk_then (pk_block (pk_then (pk_then (pk_block (pk_then (pk_then pk_body))))))))))) (by kernel_rfl) rfl (by kernel_rfl) (by kernel_rfl) rfl (.inl fun _ _ => trivial) ⟨⟨hS154.hasK (KLe.refl _), hS154.hasObj (.head _)⟩, (fun _ => hS154.hasObj (.tail _ (.tail _ (.head _)))), by decide⟩ wn rfl (fun _ _ => (rv_move rfl)) ?_
     obtain ⟨x155, hx156, h157⟩ := ob h152
     refine wg_indexAddr (t := tStr) (j := 6) (listed' := #[true, true, true, true, true, true, true, false, false, false, false, false, false, false, false, false, false]) rfl (by kernel_rfl) (pk_block (pk_then (pk_then (pk_block (pk_then (pk_block (pk_then (pk_then (pk_block (pk_then (pk_then pk_body))))))))))) (by kernel_rfl) rfl (by kernel_rfl) (by kernel_rfl) rfl ⟨⟨hS154.hasK (KLe.refl _), hS154.hasObj (.head _)⟩, (fun _ => hS154.hasObj (.tail _ (.tail _ (.head _)))), by decide⟩ wn rfl Try.underlying36 tf9 rfl rfl (SliceAt.mono ((hl61.trans hS104.le).trans hl133) hs36) hx156 ?_
     intro b158 o159 u160 hu161 ha162
     obtain ⟨rfl, hl163⟩ := hu161
     have ha164 : AtK _ b158 o159 [sv x155] := ha162
     refine wg_val (i := 7) (listed' := #[true, true, true, true, true, true, true, true, false, false, false, false, false, false, false, false, false]) (Holds K132) rfl (by kernel_rfl) (pk_block (pk_then (pk_then (pk_block (pk_then (pk_block (pk_then (pk_then (pk_block (pk_then (pk_then pk_body))))))))))) (by kernel_rfl) rfl (by kernel_rfl) (by kernel_rfl) rfl (.inl fun _ h => h.1) ⟨⟨hS154.hasK (KLe.refl _), hS154.hasObj (.head _)⟩, (fun _ => hS154.hasObj (.tail _ (.tail _ (.head _)))), by decide⟩ wn rfl (fun _ h => rh_load1 tf9 rfl (ha164 0 _ rfl) h) ?_
     refine wg_val (i := 8) (listed' := #[true, true, true, true, true, true, true, true, true, false, false, false, false, false, false, false, false]) (fun _ => True) rfl (by kernel_rfl) (pk_block (pk_then (pk_then (pk_block (pk_then (pk_block (pk_then (pk_then (pk_block (pk_then (pk_then pk_body))))))))))) (by kernel_rfl) rfl (by kernel_rfl) (by kernel_rfl) rfl (.inl fun _ _ => trivial) ⟨⟨hS154.hasK (KLe.refl _), hS154.hasObj (.head _)⟩, (fun _ => hS154.hasObj (.tail _ (.tail _ (.head _)))), by decide⟩ wn rfl (fun _ _ => (rv_move rfl)) ?_
     refine wg_val (i := 9) (listed' := #[true, true, true, true, true, true, true, true, true, true, false, false, false, false, false, false, false]) (fun _ => True) rfl (by kernel_rfl) (pk_block (pk_then (pk_then (pk_block (pk_then (pk_block (pk_then (pk_then (pk_block (pk_then (pk_then pk_body))))))))))) (by kernel_rfl) rfl (by kernel_rfl) (by kernel_rfl) rfl (.inl fun _ _ => trivial) ⟨⟨hS154.hasK (KLe.refl _), hS154.hasObj (.head _)⟩, (fun _ => hS154.hasObj (.tail _ (.tail _ (.head _)))), by decide⟩ wn rfl (fun _ _ => (rv_move rfl)) ?_
     obtain ⟨x165, hx166, h167⟩ := ob h157
     refine wg_indexAddr (t := tStr) (j := 10) (listed' := #[true, true, true, true, true, true, true, true, true, true, true, false, false, false, false, false, false]) rfl (by kernel_rfl) (pk_block (pk_then (pk_then (pk_block (pk_then (pk_block (pk_then (pk_then (pk_block (pk_then (pk_then pk_body))))))))))) (by kernel_rfl) rfl (by kernel_rfl) (by kernel_rfl) rfl ⟨⟨hS154.hasK (KLe.refl _), hS154.hasObj (.head _)⟩, (fun _ => hS154.hasObj (.tail _ (.tail _ (.head _)))), by decide⟩ wn rfl Try.underlying36 tf9 rfl rfl (SliceAt.mono hl133 hs108) hx166 ?_
     intro b168 o169 u170 hu171 ha172
     obtain ⟨rfl, hl173⟩ := hu171
     have ha174 : AtK _ b168 o169 [sv x165] := ha172
     refine wg_val (i := 11) (listed' := #[true, true, true, true, true, true, true, true, true, true, true, true, false, false, false, false, false]) (Holds K132) rfl (by kernel_rfl) (pk_block (pk_then (pk_then (pk_block (pk_then (pk_block (pk_then (pk_then (pk_block (pk_then (pk_then pk_body))))))))))) (by kernel_rfl) rfl (by kernel_rfl) (by kernel_rfl) rfl (.inl fun _ h => h.1) ⟨⟨hS154.hasK (KLe.refl _), hS154.hasObj (.head _)⟩, (fun _ => hS154.hasObj (.tail _ (.tail _ (.head _)))), by decide⟩ wn rfl (fun _ h => rh_load1 tf9 rfl (ha174 0 _ rfl) h) ?_
     refine wg_one (i := 12) (by kernel_rfl) rfl ?_
     obtain ⟨r175, hx176, h177⟩ := ob h167
     refine wl_call wn rfl (rt_call (vs := [.agg #[.slice a1 n2 c3, .slice a5 n6 c7], .slice a9 n10 c11, sv x155, sv x165]) co107 rfl) ((ok_spec_l7Entry F) hS154.enter0 (SliceAt.mono (((hS32.le.trans hl61).trans hS104.le).trans hl133) hs4) (SliceAt.mono (((hS32.le.trans hl61).trans hS104.le).trans hl133) hs8) (SliceAt.mono (((hS32.le.trans hl61).trans hS104.le).trans hl133) hs12) hl163 hl173 hx176) ?_
     rintro e187 w179 ⟨a183, n184, c185, K178, rfl, hS180, hl181, hl182, hs186⟩
     refine ⟨_, rfl, ?_⟩
     have hS188 : SH _ _ _ _ _ [_, _, _, _, _, _] := SH.call0 hS154 hS180
     refine wl_nil (qe_held (listed' := #[true, true, true, true, true, true, true, true, true, true, true, true, true, false, false, false, false]) rfl ⟨⟨hS188.hasK hS180.le, hS188.hasObj (.tail _ (.head _))⟩, (fun _ => hS188.hasObj (.tail _ (.tail _ (.tail _ (.head _))))), by decide⟩ ?_)
     refine wg_one (i := 13) (by kernel_rfl) rfl ?_
     refine wl_buildSlice (t := tGEntry) (n := 1) (pv := [(0, .agg #[sv r175.Field, sv r175.Term, .slice a183 n184 c185])]) (cs := [sv r175.Field, sv r175.Term, .slice a183 n184 c185]) (xs := [r175]) wn rfl Try.underlying40 tf60 rfl rfl rfl (by kernel_rfl) rfl rfl (lit_cons (u := .agg #[sv r175.Field, sv r175.Term, .slice a183 n184 c185]) (z := r175) ⟨a183, n184, c185, rfl, hl181, hl182, hs186⟩ lit_nil) hS188 ?_
     intro a189 w190 K191 hl192 hs193 hS194
     refine wl_nil (qe_held (listed' := #[true, true, true, true, true, true, true, true, true, true, true, true, true, true, false, false, false]) rfl ⟨⟨hS194.hasK (hS180.le.trans hl192), hS194.hasObj (.tail _ (.tail _ (.head _)))⟩, (fun _ => hS194.hasObj (.tail _ (.tail _ (.tail _ (.tail _ (.head _)))))), by decide⟩ ?_)
     refine wg_one (i := 14) (by kernel_rfl) rfl ?_
     have hS195 : SH _ _ _ _ _ [_, _, _, _, _, _, _] := SH.front (p := [_, _, _, _, _]) hS194
     obtain ⟨x196, hx197, h198⟩ := ob h177
     refine wl_appendR (t := tGEntry) wn rfl Try.underlying40 tf60 rfl rfl rfl rfl (RowAt.mono (hS180.le.trans hl192) hrow145) hm146 hs193 hx197 hS195 ?_
     intro a199 n200 c201 cs202 w203 hrow204 hm205 hS206
     refine wl_nil (qe_held (listed' := #[true, true, true, true, true, true, true, true, true, true, true, true, true, true, true, false, false]) rfl ⟨⟨hS206.hasK (hS180.le.trans hl192), hS206.hasObj (.tail _ (.tail _ (.tail _ (.head _))))⟩, (fun _ => hS206.hasObj (.tail _ (.tail _ (.tail _ (.tail _ (.tail _ (.head _))))))), by decide⟩ ?_)
     refine wg_val (i := 15) (listed' := #[true, true, true, true, true, true, true, true, true, true, true, true, true, true, true, true, false]) (fun _ => True) rfl (by kernel_rfl) (pk_block (pk_then (pk_then (pk_block (pk_then (pk_block (pk_then (pk_then (pk_block (pk_then (pk_then pk_body))))))))))) (by kernel_rfl) rfl (by kernel_rfl) (by kernel_rfl) rfl (.inl fun _ _ => trivial) ⟨⟨hS206.hasK (hS180.le.trans hl192), hS206.hasObj (.tail _ (.tail _ (.tail _ (.head _))))⟩, (fun _ => hS206.hasObj (.tail _ (.tail _ (.tail _ (.tail _ (.tail _ (.head _))))))), by decide⟩ wn rfl (fun _ _ => (rv_fieldAddr ff42_1 rfl)) ?_
     refine wg_one (i := 16) (by kernel_rfl) rfl ?_
     have hS207 : SH _ _ _ _ _ [_, _, _, _, _, _, _] := SH.front (p := [_, _, _, _, _]) hS206
     refine wl_store (cs' := [.slice a137 n138 c139, .slice a199 n200 c201]) (v := .slice a199 n200 c201) wn tf40 rfl rfl rfl (by simp [Value.cells, Value.oneCell']) hS207 rfl rfl ?_
     intro w208 hS209
     refine wl_nil (qe_held (listed' := #[true, true, true, true, true, true, true, true, true, true, true, true, true, true, true, true, true]) rfl ⟨⟨hS209.hasK (hS180.le.trans hl192), hS209.hasObj (.tail _ (.tail _ (.tail _ (.tail _ (.head _)))))⟩, (fun h => nomatch h), by decide⟩ ?_)
     refine wg_done (by kernel_rfl) ?_
     refine qe_block ?_
     refine qe_seq ?_
     refine wc_region ?_
     refine vm rfl rfl ?_
     refine wl_val wn rfl (rv_add rfl rfl) ?_
     refine va rfl rfl ?_
     refine wl_nil ?_
     obtain rfl := oi h198
     have hS210 : SH _ _ _ _ _ [_, _, _, _, _, _, _] := SH.front (p := [_, _, _, _, _, _]) hS209
     have hS211 : SH _ _ _ _ _ [_, _, _, _, _, _, _] := SH.front (p := [_, _]) hS210
     have hS212 : SH _ _ _ _ _ [_, _, _, _, _, _, _] := SH.front (p := [_, _]) hS211
     have hS213 : SH _ _ _ _ _ [_, _, _, _, _, _, _] := SH.front (p := [_, _, _, _, _, _]) hS212
     have hS214 : SH _ _ _ _ _ [_, _, _, _, _, _, _] := SH.front (p := [_, _, _, _, _, _]) hS213
     have hS215 : SH _ _ _ _ _ [_, _, _, _, _] := SH.sublist hS214 (.cons_cons _ (.cons_cons _ (.cons_cons _ (.cons_cons _ (.cons_cons _ (.cons _ (.cons _ .slnil)))))))
     exact qe_mid' ⟨_, rfl, a137, n138, c139, a199, n200, c201, cs202, K191, rfl, hS215, ((hl133.trans hS180.le).trans hl192), (w64_rng _), (SliceAt.mono (hS180.le.trans hl192) hs140), hrow204, hm205⟩ ⟨rfl, rfl, rfl, rfl, rfl, rfl, rfl, rfl, trivial⟩
    ·have h152 := cond_f hb151 h149
     refine wc_exit ?_
     refine qe_then_exit ?_
     refine qe_then_exit ?_
     obtain rfl := oi h152
     have e216 := hx150 _ rfl
     subst e216
     refine qe_block_eq ?_
     obtain rfl := oi h131
     exact qe_mid' ⟨a137, n138, c139, a141, n142, c143, cs144, K132, rfl, hS135, hl133, hs140, hrow145, hm146⟩ ⟨rfl, rfl, rfl, rfl, rfl, rfl, trivial⟩
   ·rintro _ w116 ⟨a118, n119, c120, a122, n123, c124, cs125, K114, rfl, hS117, hl115, hs121, hrow126, hm127⟩
    refine qe_block ?_
    refine qe_seq ?_
    refine wc_region ?_
    refine vm rfl rfl ?_
    refine wl_val wn rfl (rv_add rfl rfl) ?_
    refine va rfl rfl ?_
    refine wl_nil ?_
    obtain rfl := oi h113
    exact qe_mid' ⟨_, rfl, a118, n119, c120, a122, n123, c124, cs125, K114, rfl, hS117, ((hl61.trans hS104.le).trans hl115), (w64_rng _), hs121, hrow126, hm127⟩ ⟨rfl, rfl, rfl, rfl, rfl, rfl, trivial⟩
  ·have h86 := cond_f hb85 h83
   refine wc_exit ?_
   refine qe_then_exit ?_
   refine qe_then_exit ?_
   obtain rfl := oi h86
   have e217 := hx84 _ rfl
   subst e217
   refine qe_block_eq ?_
   obtain rfl := oi h59
   have hS218 : SH _ _ _ _ _ [_, _, _, _] := SH.sublist hS63 (.cons _ (.cons_cons _ (.cons_cons _ (.cons_cons _ (.cons_cons _ .slnil)))))
   exact qe_mid' ⟨a65, n66, c67, a69, n70, c71, cs72, K60, rfl, hS218, hl61, hs68, hrow73, hm74⟩ ⟨rfl, rfl, rfl, trivial⟩
 ·rintro _ w44 ⟨a46, n47, c48, a50, n51, c52, cs53, K42, rfl, hS45, hl43, hs49, hrow54, hm55⟩
  refine qs ?_
  refine sr ?_
  refine wl_val wn rfl (rv_assign (v := .int .i64 0) rfl) ?_
  refine nq ?_
  obtain ⟨o219, h220, h221⟩ := ob h41
  refine wc_cutg (fun E' w' => ∃ (a226 : Option Addr) (n227 c228 : Nat) (a230 : Option Addr) (n231 c232 : Nat) (cs233 : List Value) (K222 : KMap), E' = [(4, .pointer (some ⟨g17, 0, none⟩)), (5, .pointer (some ⟨g21, 0, none⟩))] ∧ SH w K [] w' K222 [obj g17 [.slice none 0 0, .slice none 0 0] 42, obj g21 [.slice a226 n227 c228, .slice a230 n231 c232] 42, rowI (.slice a230 n231 c232) cs233 60 3, tail (.slice a226 n227 c228) 49 3] ∧ KLe K42 K222 ∧ SliceAt tGDoc K222 a226 n227 c228 o219.Docs ∧ RowAt true tGEntry K222 cs233 o219.Entries ∧ n231 = o219.Entries.length) ?_ ?_
  ·refine wc_block ?_
   obtain ⟨r237, h238, h239⟩ := ob h220
   refine wc_while' (fun (s236 : Int × GSeg) E' w' => ∃ (a245 : Option Addr) (n246 c247 : Nat) (a249 : Option Addr) (n250 c251 : Nat) (cs252 : List Value) (K240 : KMap), E' = [(1, .slice a9 n10 c11), (4, .pointer (some ⟨g17, 0, none⟩)), (5, .pointer (some ⟨g21, 0, none⟩)), (10, .int .i64 s236.1)] ∧ SH w K [] w' K240 [obj g17 [.slice none 0 0, .slice none 0 0] 42, obj g21 [.slice a245 n246 c247, .slice a249 n250 c251] 42, rowI (.slice a249 n250 c251) cs252 60 3, tail (.slice a245 n246 c247) 49 3] ∧ KLe K42 K240 ∧ rng64 s236.1 ∧ SliceAt tGDoc K240 a245 n246 c247 s236.2.Docs ∧ RowAt true tGEntry K240 cs252 s236.2.Entries ∧ n250 = s236.2.Entries.length) h238 ⟨a46, n47, c48, a50, n51, c52, cs53, K42, rfl, hS45, (KLe.refl _), (by decide : rng64 0), hs49, hrow54, hm55⟩ ⟨rfl, rfl, rfl, rfl, trivial⟩ ?_
   rintro s236 _ w242 r255 h256 hx257 ⟨a245, n246, c247, a249, n250, c251, cs252, K240, rfl, hS243, hl241, hr244, hs248, hrow253, hm254⟩
   refine wc_seq ?_
   refine sr ?_
   refine vm rfl rfl ?_
   refine vm rfl rfl ?_
   refine wl_val wn rfl (rv_len (t := tGDoc) Try.underlying23 rfl (SliceAt.mono ((hS32.le.trans hl43).trans hl241) hs12)) ?_
   refine wl_val wn rfl (rv_lss rfl rfl) ?_
   refine nq ?_
   refine wc_cond rfl (fun hb258 => ?_) (fun hb258 => ?_)
   ·have h259 := cond_t hb258 h256
    refine wc_skip ?_
    refine qs ?_
    refine wc_block ?_
    refine wc_held (fun w' => Holds K240 w') (fun w' => HasObj g21 [.slice a245 n246 c247, .slice a249 n250 c251] w') 10 [(1, 8), (1, 9), (1, 10), (8, 9), (8, 10), (9, 10)] mixed ?_
    have hS261 := SH.drew hS243
    refine wg_val (i := 0) (listed' := #[true, false, false, false, false, false, false, false, false, false, false]) (fun _ => True) rfl (by kernel_rfl) (pk_block (pk_then (pk_then (pk_block (pk_then (pk_then pk_body)))))) (by kernel_rfl) rfl (by kernel_rfl) (by kernel_rfl) rfl (.inl fun _ _ => trivial) ⟨(hS261.hasK (KLe.refl _)), (fun _ => hS261.hasObj (.tail _ (.head _))), by decide⟩ wn rfl (fun _ _ => (rv_fieldAddr ff42_0 rfl)) ?_
    refine wg_val (i := 1) (listed' := #[true, true, false, false, false, false, false, false, false, false, false]) (HasObj g21 [.slice a245 n246 c247, .slice a249 n250 c251]) rfl (by kernel_rfl) (pk_block (pk_then (pk_then (pk_block (pk_then (pk_then pk_body)))))) (by kernel_rfl) rfl (by kernel_rfl) (by kernel_rfl) rfl (.inr ⟨rfl, fun _ _ h => h⟩) ⟨(hS261.hasK (KLe.refl _)), (fun _ => hS261.hasObj (.tail _ (.head _))), by decide⟩ wn rfl (fun _ h => rh_loadm1 tf23 rfl rfl h) ?_
    refine wg_val (i := 2) (listed' := #[true, true, true, false, false, false, false, false, false, false, false]) (fun _ => True) rfl (by kernel_rfl) (pk_block (pk_then (pk_then (pk_block (pk_then (pk_then pk_body)))))) (by kernel_rfl) rfl (by kernel_rfl) (by kernel_rfl) rfl (.inl fun _ _ => trivial) ⟨(hS261.hasK (KLe.refl _)), (fun _ => hS261.hasObj (.tail _ (.head _))), by decide⟩ wn rfl (fun _ _ => (rv_move rfl)) ?_
    refine wg_val (i := 3) (listed' := #[true, true, true, true, false, false, false, false, false, false, false]) (fun _ => True) rfl (by kernel_rfl) (pk_block (pk_then (pk_then (pk_block (pk_then (pk_then pk_body)))))) (by kernel_rfl) rfl (by kernel_rfl) (by kernel_rfl) rfl (.inl fun _ _ => trivial) ⟨(hS261.hasK (KLe.refl _)), (fun _ => hS261.hasObj (.tail _ (.head _))), by decide⟩ wn rfl (fun _ _ => (rv_move rfl)) ?_
    obtain ⟨x262, hx263, h264⟩ := ob h259
    refine wg_indexAddr (t := tGDoc) (j := 4) (listed' := #[true, true, true, true, true, false, false, false, false, false, false]) rfl (by kernel_rfl) (pk_block (pk_then (pk_then (pk_block (pk_then (pk_then pk_body)))))) (by kernel_rfl) rfl (by kernel_rfl) (by kernel_rfl) rfl ⟨(hS261.hasK (KLe.refl _)), (fun _ => hS261.hasObj (.tail _ (.head _))), by decide⟩ wn rfl Try.underlying23 tf49 rfl rfl (SliceAt.mono ((hS32.le.trans hl43).trans hl241) hs12) hx263 ?_
    intro b265 o266 u267 hu268 ha269
    obtain ⟨a271, n272, c273, a275, n276, c277, rfl, hr270, hs274, hs278⟩ := hu268
    have ha279 : AtK _ b265 o266 [.int .i64 x262.Id, .slice a271 n272 c273, .slice a275 n276 c277] := ha269
    refine wg_val (i := 5) (listed' := #[true, true, true, true, true, true, false, false, false, false, false]) (Holds K240) rfl (by kernel_rfl) (pk_block (pk_then (pk_then (pk_block (pk_then (pk_then pk_body)))))) (by kernel_rfl) rfl (by kernel_rfl) (by kernel_rfl) rfl (.inl fun _ h => h) ⟨(hS261.hasK (KLe.refl _)), (fun _ => hS261.hasObj (.tail _ (.head _))), by decide⟩ wn rfl (fun _ h => rh_loadS (cs := [.int .i64 x262.Id, .slice a271 n272 c273, .slice a275 n276 c277]) tf49 rfl ha279 rfl h) ?_
    refine wg_one (i := 6) (by kernel_rfl) rfl ?_
    obtain ⟨r280, hx281, h282⟩ := ob h264
    refine wl_call wn rfl (rt_call (vs := [.agg #[.int .i64 x262.Id, .slice a271 n272 c273, .slice a275 n276 c277]]) co108 rfl) ((ok_spec_l7CopyDoc F) hS261.enter0 hr270 hs274 hs278 hx281) ?_
    rintro e295 w284 ⟨a287, n288, c289, a291, n292, c293, K283, rfl, hS285, hr286, hs290, hs294⟩
    refine ⟨_, rfl, ?_⟩
    have hS296 : SH _ _ _ _ _ [_, _, _, _, _, _] := SH.call0 hS261 hS285
    refine wl_nil (qe_held (listed' := #[true, true, true, true, true, true, true, false, false, false, false]) rfl ⟨(hS296.hasK hS285.le), (fun _ => hS296.hasObj (.tail _ (.tail _ (.tail _ (.head _))))), by decide⟩ ?_)
    refine wg_one (i := 7) (by kernel_rfl) rfl ?_
    refine wl_buildSlice (t := tGDoc) (n := 1) (pv := [(0, .agg #[.int .i64 r280.Id, .slice a287 n288 c289, .slice a291 n292 c293])]) (cs := [.int .i64 r280.Id, .slice a287 n288 c289, .slice a291 n292 c293]) (xs := [r280]) wn rfl Try.underlying23 tf49 rfl rfl rfl (by kernel_rfl) rfl rfl (lit_cons (u := .agg #[.int .i64 r280.Id, .slice a287 n288 c289, .slice a291 n292 c293]) (z := r280) ⟨a287, n288, c289, a291, n292, c293, rfl, hr286, hs290, hs294⟩ lit_nil) hS296 ?_
    intro a297 w298 K299 hl300 hs301 hS302
    refine wl_nil (qe_held (listed' := #[true, true, true, true, true, true, true, true, false, false, false]) rfl ⟨(hS302.hasK (hS285.le.trans hl300)), (fun _ => hS302.hasObj (.tail _ (.tail _ (.tail _ (.tail _ (.head _)))))), by decide⟩ ?_)
    refine wg_one (i := 8) (by kernel_rfl) rfl ?_
    have hS303 : SH _ _ _ _ _ [_, _, _, _, _, _, _] := SH.front (p := [_, _, _, _, _, _]) hS302
    obtain ⟨x304, hx305, h306⟩ := ob h282
    refine wl_append (t := tGDoc) wn rfl Try.underlying23 tf49 rfl rfl rfl rfl rfl (SliceAt.mono (hS285.le.trans hl300) hs248) hs301 hx305 hS303 ?_
    intro a307 n308 c309 w310 K311 hl312 hs313 hS314
    refine wl_nil (qe_held (listed' := #[true, true, true, true, true, true, true, true, true, false, false]) rfl ⟨(hS314.hasK ((hS285.le.trans hl300).trans hl312)), (fun _ => hS314.hasObj (.tail _ (.tail _ (.tail _ (.tail _ (.tail _ (.head _))))))), by decide⟩ ?_)
    refine wg_val (i := 9) (listed' := #[true, true, true, true, true, true, true, true, true, true, false]) (fun _ => True) rfl (by kernel_rfl) (pk_block (pk_then (pk_then (pk_block (pk_then (pk_then pk_body)))))) (by kernel_rfl) rfl (by kernel_rfl) (by kernel_rfl) rfl (.inl fun _ _ => trivial) ⟨(hS314.hasK ((hS285.le.trans hl300).trans hl312)), (fun _ => hS314.hasObj (.tail _ (.tail _ (.tail _ (.tail _ (.tail _ (.head _))))))), by decide⟩ wn rfl (fun _ _ => (rv_fieldAddr ff42_0 rfl)) ?_
    refine wg_one (i := 10) (by kernel_rfl) rfl ?_
    have hS315 : SH _ _ _ _ _ [_, _, _, _, _, _, _] := SH.front (p := [_, _, _, _, _]) hS314
    refine wl_store (cs' := [.slice a307 n308 c309, .slice a249 n250 c251]) (v := .slice a307 n308 c309) wn tf23 rfl rfl rfl (by simp [Value.cells, Value.oneCell']) hS315 rfl rfl ?_
    intro w316 hS317
    refine wl_nil (qe_held (listed' := #[true, true, true, true, true, true, true, true, true, true, true]) rfl ⟨(hS317.hasK ((hS285.le.trans hl300).trans hl312)), (fun h => nomatch h), by decide⟩ ?_)
    refine wg_done (by kernel_rfl) ?_
    refine qe_block ?_
    refine qe_seq ?_
    refine wc_region ?_
    refine vm rfl rfl ?_
    refine wl_val wn rfl (rv_add rfl rfl) ?_
    refine va rfl rfl ?_
    refine wl_nil ?_
    obtain rfl := oi h306
    have hS318 : SH _ _ _ _ _ [_, _, _, _, _, _, _] := SH.front (p := [_]) hS317
    have hS319 : SH _ _ _ _ _ [_, _, _, _, _, _, _] := SH.front (p := [_, _, _, _, _, _]) hS318
    have hS320 : SH _ _ _ _ _ [_, _, _, _, _, _, _] := SH.front (p := [_, _]) hS319
    have hS321 : SH _ _ _ _ _ [_, _, _, _, _, _, _] := SH.front (p := [_, _, _, _, _, _]) hS320
    have hS322 : SH _ _ _ _ _ [_, _, _, _] := SH.sublist hS321 (.cons_cons _ (.cons_cons _ (.cons_cons _ (.cons_cons _ (.cons _ (.cons _ (.cons _ .slnil)))))))
    exact qe_mid' ⟨_, rfl, a307, n308, c309, a249, n250, c251, cs252, K311, rfl, hS322, (((hl241.trans hS285.le).trans hl300).trans hl312), (w64_rng _), hs313, (RowAt.mono ((hS285.le.trans hl300).trans hl312) hrow253), hm254⟩ ⟨rfl, rfl, rfl, rfl, trivial⟩
   ·have h259 := cond_f hb258 h256
    refine wc_exit ?_
    refine qe_then_exit ?_
    refine qe_then_exit ?_
    obtain rfl := oi h259
    have e323 := hx257 _ rfl
    subst e323
    refine qe_block_eq ?_
    obtain rfl := oi h239
    exact qe_mid' ⟨a245, n246, c247, a249, n250, c251, cs252, K240, rfl, hS243, hl241, hs248, hrow253, hm254⟩ ⟨rfl, rfl, trivial⟩
  ·rintro _ w224 ⟨a226, n227, c228, a230, n231, c232, cs233, K222, rfl, hS225, hl223, hs229, hrow234, hm235⟩
   refine qr ?_
   refine wl_val wn rfl (rv_loadmS (ds := [.slice a226 n227 c228, .slice a230 n231 c232]) tf42 rfl (.tail _ (.head _)) hS225 rfl rfl) ?_
   refine wl_store (cs' := [.slice a226 n227 c228, .slice a230 n231 c232]) (v := .agg #[.slice a226 n227 c228, .slice a230 n231 c232]) wn tf42 rfl rfl rfl (by simp [Value.cells, Value.oneCell']) hS225 rfl rfl ?_
   intro w324 hS325
   refine nq ?_
   refine wc_ret ?_
   obtain rfl := oi h221
   have hS326 : SH _ _ _ _ _ [_, _, _, _] := SH.front (p := [_, _]) hS325
   have hS327 : SH _ _ _ _ _ [_, _, _, _] := SH.front (p := [_, _, _]) hS326
   have hS328 : SH _ _ _ _ _ [_, _] := SH.sublist hS327 (.cons_cons _ (.cons_cons _ (.cons _ (.cons _ .slnil))))
   exact qe_ret (vs := [_]) Try.results68 ⟨⟨_, _, rfl, run_loadVar_at tf42 (cs := [.slice a226 n227 c228, .slice a230 n231 c232]) (fun j c e => by rw [Nat.zero_add, hS325.mem_obj (.head _)]; exact e) (.inl ⟨rfl, rfl, rfl⟩)⟩, trivial⟩ ⟨a226, n227, c228, a230, n231, c232, cs233, K222, rfl, hS328, hs229, hrow234, hm235⟩

theorem ok_spec_SegOf (F : Nat) {w : World} {K : KMap} {a1 : Option Addr} {n2 c3 : Nat} {a5 : Option Addr} {n6 c7 : Nat} {a9 : Option Addr} {n10 c11 : Nat} {p0_c : GConf} {p1_docs : List GDoc} {r : GSeg} (hS : SH w K [] w K []) (hs4 : SliceAt tStr K a1 n2 c3 p0_c.Stops) (hs8 : SliceAt tGSyn K a5 n6 c7 p0_c.Syns) (hs12 : SliceAt tGDoc K a9 n10 c11 p1_docs) (hm : M.spec_SegOf F p0_c p1_docs = some r) :
  Calls Try.prog 23 #[.agg #[.slice a1 n2 c3, .slice a5 n6 c7], .slice a9 n10 c11] w fun e w' => ∃ (a_1 : Option Addr) (n_2 c_3 : Nat) (a_5 : Option Addr) (n_6 c_7 : Nat) (K' : KMap), e = .returned (.agg #[.slice a_1 n_2 c_3, .slice a_5 n_6 c_7]) ∧ SH w K [] w' K' [tail (.slice a_1 n_2 c_3) 49 3, tail (.slice a_5 n_6 c_7) 60 3] ∧ SliceAt tGDoc K' a_1 n_2 c_3 r.Docs ∧ SliceAt tGEntry K' a_5 n_6 c_7 r.Entries := by
 rw [M.spec_SegOf] at hm
 refine calls_in Try.func23 rfl Try.ntmps23 rfl ?_
 refine sr ?_
 refine wl_box wn rfl rfl hS ?_
 intro g13 w14 hS15
 have hS16 : SH _ _ _ _ _ [obj g13 [.slice a1 n2 c3, .slice a5 n6 c7] 39] := hS15
 refine wl_alloc wn rfl tf42 hS16 ?_
 intro g17 w18 hS19
 have hS20 : SH _ _ _ _ _ [obj g17 [.slice none 0 0, .slice none 0 0] 42, _] := hS19
 refine ns ?_
 refine wc_seq ?_
 obtain ⟨o21, h22, h23⟩ := ob hm
 refine wc_cutg (fun E' w' => ∃ (K24 : KMap), E' = [(1, .slice a9 n10 c11), (2, .pointer (some ⟨g13, 0, none⟩)), (4, .pointer (some ⟨g17, 0, none⟩)), (12, .bool o21)] ∧ SH w K [] w' K24 [obj g13 [.slice a1 n2 c3, .slice a5 n6 c7] 39, obj g17 [.slice none 0 0, .slice none 0 0] 42] ∧ KLe K K24) ?_ ?_
 ·refine wc_region ?_
  refine wl_val wn rfl (rv_loadmS (ds := [.slice a1 n2 c3, .slice a5 n6 c7]) tf39 rfl (.tail _ (.head _)) hS20 rfl rfl) ?_
  obtain ⟨r28, hx29, h30⟩ := ob h22
  refine wl_call wn rfl (rt_call (vs := [.agg #[.slice a1 n2 c3, .slice a5 n6 c7]]) co67 rfl) ((ok_spec_l2Ok F) hS20.enter0 hs4 hs8 hx29) ?_
  rintro e34 w32 ⟨K31, rfl, hS33⟩
  refine ⟨_, rfl, ?_⟩
  have hS35 : SH _ _ _ _ _ [_, _] := SH.call0 hS20 hS33
  refine wl_val wn rfl (rv_not rfl) ?_
  refine vm rfl rfl ?_
  rcases bool_tf ((!r28)) with hb36 | hb36
  ·have h37 := cond_t hb36 h30
   refine wl_un (ug rfl rfl hb36) rfl ?_
   refine wl_un (ug rfl rfl hb36) rfl ?_
   refine wl_un (ug rfl rfl hb36) rfl ?_
   refine wl_val wn rfl (rv_pick_t (v := .bool true) rfl hb36 rfl) ?_
   refine wl_nil ?_
   obtain rfl := oi h37
   have hS38 : SH _ _ _ _ _ [_, _] := SH.front (p := [_]) hS35
   exact qe_mid' ⟨K31, rfl, hS38, hS33.le⟩ ⟨rfl, rfl, rfl, rfl, trivial⟩
  ·have h37 := cond_f hb36 h30
   refine wl_val (wg rfl rfl hb36) rfl (rv_move rfl) ?_
   obtain ⟨r39, hx40, h41⟩ := ob h37
   refine wl_call (wg rfl rfl hb36) rfl (rt_call (vs := [.slice a9 n10 c11]) co44 rfl) ((ok_spec_l6Docs F) hS35.enter0 (SliceAt.mono hS33.le hs12) hx40) ?_
   rintro e45 w43 ⟨K42, rfl, hS44⟩
   refine ⟨_, rfl, ?_⟩
   have hS46 : SH _ _ _ _ _ [_, _] := SH.call0 hS35 hS44
   refine wl_val (wg rfl rfl hb36) rfl (rv_not rfl) ?_
   refine wl_val wn rfl (rv_pick_f rfl hb36 rfl) ?_
   refine wl_nil ?_
   obtain rfl := oi h41
   have hS47 : SH _ _ _ _ _ [_, _] := SH.front (p := [_]) hS46
   exact qe_mid' ⟨K42, rfl, hS47, (hS33.le.trans hS44.le)⟩ ⟨rfl, rfl, rfl, rfl, trivial⟩
 ·rintro _ w26 ⟨K24, rfl, hS27, hl25⟩
  refine qe_seq ?_
  refine wc_cond rfl (fun hb48 => ?_) (fun hb48 => ?_)
  ·have h49 := cond_t hb48 h23
   refine sr ?_
   refine wl_val wn rfl (rv_build (cs := #[.slice none 0 0, .slice none 0 0]) sp42 tf42 rfl (by kernel_rfl)) ?_
   have hS50 : SH _ _ _ _ _ [_, _] := SH.front (p := [_]) hS27
   refine wl_store (cs' := [.slice none 0 0, .slice none 0 0]) (v := .agg #[.slice none 0 0, .slice none 0 0]) wn tf42 rfl rfl rfl (by simp [Value.cells, Value.oneCell']) hS50 rfl rfl ?_
   intro w51 hS52
   refine nq ?_
   refine rr ?_
   obtain rfl := oi h49
   have hS53 := SH.nil hS52 49 3
   have hS54 := SH.nil hS53 60 3
   have hS55 : SH _ _ _ _ _ [_, _, _, _] := SH.front (p := [_]) hS54
   have hS56 : SH _ _ _ _ _ [_, _] := SH.sublist hS55 (.cons_cons _ (.cons_cons _ (.cons _ (.cons _ .slnil))))
   exact qe_ret (vs := [_]) Try.results23 ⟨⟨_, _, rfl, run_loadVar_at tf42 (cs := [.slice none 0 0, .slice none 0 0]) (fun j c e => by rw [Nat.zero_add, hS52.mem_obj (.head _)]; exact e) (.inl ⟨rfl, rfl, rfl⟩)⟩, trivial⟩ ⟨none, 0, 0, none, 0, 0, K24, rfl, hS56, (SliceAt.nil _ _), (SliceAt.nil _ _)⟩
  ·have h49 := cond_f hb48 h23
   refine wc_skip ?_
   refine qr ?_
   refine wl_val wn rfl (rv_loadmS (ds := [.slice a1 n2 c3, .slice a5 n6 c7]) tf39 rfl (.head _) hS27 rfl rfl) ?_
   refine vm rfl rfl ?_
   obtain ⟨r57, hx58, h59⟩ := ob h49
   refine wl_call wn rfl (rt_call (vs := [.agg #[.slice a1 n2 c3, .slice a5 n6 c7], .slice a9 n10 c11]) co68 rfl) ((ok_spec_l7Of F) hS27.enter0 (SliceAt.mono hl25 hs4) (SliceAt.mono hl25 hs8) (SliceAt.mono hl25 hs12) hx58) ?_
   rintro e73 w61 ⟨a63, n64, c65, a67, n68, c69, cs70, K60, rfl, hS62, hs66, hrow71, hm72⟩
   refine ⟨_, rfl, ?_⟩
   have hS74 : SH _ _ _ _ _ [_, _, _, _] := SH.call0 hS27 hS62
   have hS75 : SH _ _ _ _ _ [_, _, _, _] := SH.front (p := [_]) hS74
   obtain ⟨K76, hl77, hs78, hS79⟩ := SH.freezeI hS75 hrow71 hm72
   have hS80 : SH _ _ _ _ _ [_, _, _, _] := SH.front (p := [_, _, _]) hS79
   refine wl_store (cs' := [.slice a63 n64 c65, .slice a67 n68 c69]) (v := .agg #[.slice a63 n64 c65, .slice a67 n68 c69]) wn tf42 rfl rfl rfl (by simp [Value.cells, Value.oneCell']) hS80 rfl rfl ?_
   intro w81 hS82
   refine nq ?_
   refine wc_ret ?_
   obtain rfl := oi h59
   have hS83 : SH _ _ _ _ _ [_, _, _, _] := SH.front (p := [_]) hS82
   have hS84 : SH _ _ _ _ _ [_, _, _, _] := SH.front (p := [_, _]) hS83
   have hS85 : SH _ _ _ _ _ [_, _] := SH.sublist hS84 (.cons_cons _ (.cons_cons _ (.cons _ (.cons _ .slnil))))
   exact qe_ret (vs := [_]) Try.results23 ⟨⟨_, _, rfl, run_loadVar_at tf42 (cs := [.slice a63 n64 c65, .slice a67 n68 c69]) (fun j c e => by rw [Nat.zero_add, hS82.mem_obj (.head _)]; exact e) (.inl ⟨rfl, rfl, rfl⟩)⟩, trivial⟩ ⟨a63, n64, c65, a67, n68, c69, K76, rfl, hS85, (SliceAt.mono hl77 hs66), hs78⟩

theorem ok_slices_Equal_int (F : Nat) {w : World} {K : KMap} {a1 : Option Addr} {n2 c3 : Nat} {a5 : Option Addr} {n6 c7 : Nat} {p0_s1 : List Int} {p1_s2 : List Int} {r : Bool} (hS : SH w K [] w K []) (hs4 : SliceAt tInt K a1 n2 c3 p0_s1) (hs8 : SliceAt tInt K a5 n6 c7 p1_s2) (hm : M.slices_Equal_int F p0_s1 p1_s2 = some r) :
  Calls Try.prog 142 #[.slice a1 n2 c3, .slice a5 n6 c7] w fun e w' => ∃ (K' : KMap), e = .returned (.bool r) ∧ SH w K [] w' K' [] := by
 rw [M.slices_Equal_int] at hm
 refine calls_in Try.func142 rfl Try.ntmps142 rfl ?_
 refine sr ?_
 refine wl_val wn rfl (rv_assign (v := .bool false) rfl) ?_
 refine nsr ?_
 refine vm rfl rfl ?_
 refine wl_val wn rfl (rv_len (t := tInt) Try.underlying24 rfl hs4) ?_
 refine vm rfl rfl ?_
 refine wl_val wn rfl (rv_len (t := tInt) Try.underlying24 rfl hs8) ?_
 refine wl_val wn rfl (rv_neq rfl rfl) ?_
 refine nq ?_
 refine wc_cond rfl (fun hb9 => ?_) (fun hb9 => ?_)
 ·have h10 := cond_t hb9 hm
  refine sr ?_
  refine wl_val wn rfl (rv_assign (v := .bool false) rfl) ?_
  refine nq ?_
  refine rr ?_
  obtain rfl := oi h10
  exact qe_ret (vs := [_]) Try.results142 ⟨rfl, trivial⟩ ⟨K, rfl, hS⟩
 ·have h10 := cond_f hb9 hm
  refine wc_skip ?_
  refine qs ?_
  refine sr ?_
  refine vm rfl rfl ?_
  refine wl_val wn rfl (rv_len (t := tInt) Try.underlying24 rfl hs4) ?_
  refine wl_val wn rfl (rv_move (v := .int .i64 0) rfl) ?_
  refine nq ?_
  obtain ⟨o11, h12, h13⟩ := ob h10
  refine wc_cutg (fun E' w' => ∃ (s14 : Unit) (K15 : KMap), o11 = .inl s14 ∧ E' = [] ∧ SH w K [] w' K15 [] ∧ KLe K K15) ?_ ?_
  ·refine wc_block ?_
   obtain ⟨r20, h21, h22⟩ := ob h12
   refine wc_for' (fun (i23 : Nat) (s19 : Unit) E' w' => ∃ (K24 : KMap), E' = [(0, .slice a1 n2 c3), (1, .slice a5 n6 c7), (12, .int .i64 (p0_s1.length : Int)), (13, .int .i64 ((i23 : Nat) : Int))] ∧ SH w K [] w' K24 [] ∧ KLe K K24) h21 ⟨K, rfl, hS, (KLe.refl _)⟩ ⟨rfl, rfl, rfl, rfl, trivial⟩ ?_ ?_
   ·rintro i23 s19 _ w26 r28 hi29 h30 hx31 ⟨K24, rfl, hS27, hl25⟩
    refine sr ?_
    refine wl_val wn rfl (rv_lss rfl rfl) ?_
    refine ns ?_
    refine wc_cond_t rfl (decide_eq_true (by omega)) (wc_skip (qe_seq (wc_seq ?_)))
    refine wc_block ?_
    refine sr ?_
    refine vm rfl rfl ?_
    refine va rfl rfl ?_
    refine ns ?_
    refine wc_quiet mixed (by kernel_rfl) hS27 ?_
    refine qm rfl rfl ?_
    refine qm rfl rfl ?_
    obtain ⟨x32, hx33, h34⟩ := ob h30
    refine wq_indexAddr (t := tInt) wn rfl Try.underlying24 tf3 rfl rfl (SliceAt.mono hl25 hs4) hx33 ?_
    intro b35 o36 u37 hu38 ha39
    obtain ⟨rfl, hr40⟩ := hu38
    have ha41 : AtK _ b35 o36 [.int .i64 x32] := ha39
    refine wq_val wn rfl (rq_load1 tf3 rfl (ha41 0 _ rfl)) ?_
    refine qm rfl rfl ?_
    refine qm rfl rfl ?_
    obtain ⟨x42, hx43, h44⟩ := ob h34
    refine wq_indexAddr (t := tInt) wn rfl Try.underlying24 tf3 rfl rfl (SliceAt.mono hl25 hs8) hx43 ?_
    intro b45 o46 u47 hu48 ha49
    obtain ⟨rfl, hr50⟩ := hu48
    have ha51 : AtK _ b45 o46 [.int .i64 x42] := ha49
    refine wq_val wn rfl (rq_load1 tf3 rfl (ha51 0 _ rfl)) ?_
    refine wq_val wn rfl (fun _ _ => (rv_neq rfl rfl)) ?_
    refine wq_nil ?_
    rintro w53 ⟨K52, hS54, hl55⟩
    refine qe_seq ?_
    refine wc_cond rfl (fun hb56 => ?_) (fun hb56 => ?_)
    ·have h57 := cond_t hb56 h44
     refine sr ?_
     refine wl_val wn rfl (rv_assign (v := .bool false) rfl) ?_
     refine nq ?_
     refine wc_ret ?_
     refine qe_block_ret ?_
     refine qe_then_ret ?_
     refine qe_then_ret ?_
     obtain rfl := oi h57
     have e58 := hx31 _ rfl
     subst e58
     refine qe_block_ret ?_
     refine qe_then_ret ?_
     obtain rfl := oi h22
     refine qe_then_ret ?_
     obtain rfl := oi h13
     exact qe_ret (vs := [_]) Try.results142 ⟨rfl, trivial⟩ ⟨K52, rfl, hS54⟩
    ·have h57 := cond_f hb56 h44
     refine wc_skip ?_
     refine qe_block ?_
     refine qg ?_
     refine wl_val wn rfl (rv_add_to rfl rfl (w64_succ hi29 (SliceAt.max hs4))) ?_
     refine vm rfl rfl ?_
     refine wl_nil ?_
     obtain rfl := oi h57
     exact qe_mid' ⟨_, rfl, K52, rfl, hS54, (hl25.trans hl55)⟩ ⟨rfl, rfl, rfl, rfl, trivial⟩
   ·rintro s19 _ w26 hr59 ⟨K24, rfl, hS27, hl25⟩
    subst hr59
    refine sr ?_
    refine wl_val wn rfl (rv_lss rfl rfl) ?_
    refine ns ?_
    refine wc_cond_f rfl (decide_eq_false (by omega)) ?_
    refine wc_exit ?_
    refine qe_then_exit ?_
    refine qe_then_exit ?_
    refine qe_block_eq ?_
    obtain rfl := oi h22
    exact qe_mid' ⟨_, K24, rfl, rfl, hS27, hl25⟩ trivial
  ·rintro _ w17 ⟨s14, K15, rfl, rfl, hS18, hl16⟩
   refine qr ?_
   refine wl_val wn rfl (rv_assign (v := .bool true) rfl) ?_
   refine nq ?_
   refine wc_ret ?_
   obtain rfl := oi h13
   exact qe_ret (vs := [_]) Try.results142 ⟨rfl, trivial⟩ ⟨K15, rfl, hS18⟩

theorem ok_impl_samePost (F : Nat) {w : World} {K : KMap} {a2 : Option Addr} {n3 c4 : Nat} {a7 : Option Addr} {n8 c9 : Nat} {p0_a : GPost} {p1_b : GPost} {r : Bool} (hS : SH w K [] w K []) (hr1 : rng64 p0_a.Doc) (hs5 : SliceAt tInt K a2 n3 c4 p0_a.At) (hr6 : rng64 p1_b.Doc) (hs10 : SliceAt tInt K a7 n8 c9 p1_b.At) (hm : M.impl_samePost F p0_a p1_b = some r) :
  Calls Try.prog 110 #[.agg #[.int .i64 p0_a.Doc, .slice a2 n3 c4], .agg #[.int .i64 p1_b.Doc, .slice a7 n8 c9]] w fun e w' => ∃ (K' : KMap), e = .returned (.bool r) ∧ SH w K [] w' K' [] := by
 rw [M.impl_samePost] at hm
 refine calls_in Try.func110 rfl Try.ntmps110 rfl ?_
 refine sr ?_
 refine wl_box wn rfl rfl hS ?_
 intro g11 w12 hS13
 have hS14 : SH _ _ _ _ _ [obj g11 [.int .i64 p0_a.Doc, .slice a2 n3 c4] 64] := hS13
 refine wl_box wn rfl rfl hS14 ?_
 intro g15 w16 hS17
 have hS18 : SH _ _ _ _ _ [obj g15 [.int .i64 p1_b.Doc, .slice a7 n8 c9] 64, _] := hS17
 refine wl_val wn rfl (rv_assign (v := .bool false) rfl) ?_
 refine nr ?_
 refine wl_val wn rfl (rv_fieldAddr ff64_0 rfl) ?_
 refine wl_val wn rfl (rv_loadm1 tf3 rfl (.tail _ (.head _)) hS18 rfl) ?_
 refine wl_val wn rfl (rv_fieldAddr ff64_0 rfl) ?_
 refine wl_val wn rfl (rv_loadm1 tf3 rfl (.head _) hS18 rfl) ?_
 refine wl_val wn rfl (rv_eql rfl rfl) ?_
 refine vm rfl rfl ?_
 rcases bool_tf ((p0_a.Doc == p1_b.Doc)) with hb19 | hb19
 ·have h20 := cond_t hb19 hm
  refine wl_val (wg rfl rfl hb19) rfl (rv_fieldAddr ff64_1 rfl) ?_
  refine wl_val (wg rfl rfl hb19) rfl (rv_loadm1 tf24 rfl (.tail _ (.head _)) hS18 rfl) ?_
  refine wl_val (wg rfl rfl hb19) rfl (rv_fieldAddr ff64_1 rfl) ?_
  refine wl_val (wg rfl rfl hb19) rfl (rv_loadm1 tf24 rfl (.head _) hS18 rfl) ?_
  obtain ⟨r21, hx22, h23⟩ := ob h20
  refine wl_call (wg rfl rfl hb19) rfl (rt_call (vs := [.slice a2 n3 c4, .slice a7 n8 c9]) co142 rfl) ((ok_slices_Equal_int F) hS18.enter0 hs5 hs10 hx22) ?_
  rintro e27 w25 ⟨K24, rfl, hS26⟩
  refine ⟨_, rfl, ?_⟩
  have hS28 : SH _ _ _ _ _ [_, _] := SH.call0 hS18 hS26
  refine wl_val wn rfl (rv_pick_t rfl hb19 rfl) ?_
  refine va rfl rfl ?_
  refine nq ?_
  refine wc_ret ?_
  obtain rfl := oi h23
  have hS29 : SH _ _ _ _ _ [] := SH.sublist hS28 (.cons _ (.cons _ .slnil))
  exact qe_ret (vs := [_]) Try.results110 ⟨rfl, trivial⟩ ⟨K24, rfl, hS29⟩
 ·have h20 := cond_f hb19 hm
  refine wl_un (ug rfl rfl hb19) rfl ?_
  refine wl_un (ug rfl rfl hb19) rfl ?_
  refine wl_un (ug rfl rfl hb19) rfl ?_
  refine wl_un (ug rfl rfl hb19) rfl ?_
  refine wl_un (ug rfl rfl hb19) rfl ?_
  refine wl_val wn rfl (rv_pick_f (v := .bool false) rfl hb19 rfl) ?_
  refine va rfl rfl ?_
  refine nq ?_
  refine wc_ret ?_
  obtain rfl := oi h20
  have hS30 : SH _ _ _ _ _ [] := SH.sublist hS18 (.cons _ (.cons _ .slnil))
  exact qe_ret (vs := [_]) Try.results110 ⟨rfl, trivial⟩ ⟨K, rfl, hS30⟩

set_option maxHeartbeats 2000000 in
theorem ok_slices_EqualFunc_Post__impl_samePost (F : Nat) {w : World} {K : KMap} {a1 : Option Addr} {n2 c3 : Nat} {a5 : Option Addr} {n6 c7 : Nat} {p0_s1 : List GPost} {p1_s2 : List GPost} {r : Bool} (hS : SH w K [] w K []) (hs4 : SliceAt tGPost K a1 n2 c3 p0_s1) (hs8 : SliceAt tGPost K a5 n6 c7 p1_s2) (hm : M.slices_EqualFunc_Post__impl_samePost F p0_s1 p1_s2 = some r) :
  Calls Try.prog 109 #[.slice a1 n2 c3, .slice a5 n6 c7, .func (.func 110) #[] #[]] w fun e w' => ∃ (K' : KMap), e = .returned (.bool r) ∧ SH w K [] w' K' [] := by
 rw [M.slices_EqualFunc_Post__impl_samePost] at hm
 refine calls_in Try.func109 rfl Try.ntmps109 rfl ?_
 refine sr ?_
 refine wl_val wn rfl (rv_assign (v := .bool false) rfl) ?_
 refine nsr ?_
 refine vm rfl rfl ?_
 refine wl_val wn rfl (rv_len (t := tGPost) Try.underlying58 rfl hs4) ?_
 refine vm rfl rfl ?_
 refine wl_val wn rfl (rv_len (t := tGPost) Try.underlying58 rfl hs8) ?_
 refine wl_val wn rfl (rv_neq rfl rfl) ?_
 refine nq ?_
 refine wc_cond rfl (fun hb9 => ?_) (fun hb9 => ?_)
 ·have h10 := cond_t hb9 hm
  refine sr ?_
  refine wl_val wn rfl (rv_assign (v := .bool false) rfl) ?_
  refine nq ?_
  refine rr ?_
  obtain rfl := oi h10
  exact qe_ret (vs := [_]) Try.results109 ⟨rfl, trivial⟩ ⟨K, rfl, hS⟩
 ·have h10 := cond_f hb9 hm
  refine wc_skip ?_
  refine qs ?_
  refine sr ?_
  refine vm rfl rfl ?_
  refine wl_val wn rfl (rv_len (t := tGPost) Try.underlying58 rfl hs4) ?_
  refine wl_val wn rfl (rv_move (v := .int .i64 0) rfl) ?_
  refine nq ?_
  obtain ⟨o11, h12, h13⟩ := ob h10
  refine wc_cutg (fun E' w' => ∃ (s14 : Unit) (K15 : KMap), o11 = .inl s14 ∧ E' = [] ∧ SH w K [] w' K15 [] ∧ KLe K K15) ?_ ?_
  ·refine wc_block ?_
   obtain ⟨r20, h21, h22⟩ := ob h12
   refine wc_for' (fun (i23 : Nat) (s19 : Unit) E' w' => ∃ (K24 : KMap), E' = [(1, .slice a5 n6 c7), (2, .func (.func 110) #[] #[]), (15, .slice a1 n2 c3), (16, .int .i64 (p0_s1.length : Int)), (17, .int .i64 ((i23 : Nat) : Int))] ∧ SH w K [] w' K24 [] ∧ KLe K K24) h21 ⟨K, rfl, hS, (KLe.refl _)⟩ ⟨rfl, rfl, rfl, rfl, rfl, trivial⟩ ?_ ?_
   ·rintro i23 s19 _ w26 r28 hi29 h30 hx31 ⟨K24, rfl, hS27, hl25⟩
    refine sr ?_
    refine wl_val wn rfl (rv_lss rfl rfl) ?_
    refine ns ?_
    refine wc_cond_t rfl (decide_eq_true (by omega)) (wc_skip (qe_seq (wc_seq ?_)))
    refine wc_block ?_
    refine sr ?_
    refine vm rfl rfl ?_
    obtain ⟨x32, hx33, h34⟩ := ob h30
    refine wl_indexAddr (t := tGPost) wn rfl Try.underlying58 tf64 rfl rfl (SliceAt.mono hl25 hs4) hx33 ?_
    intro b35 o36 u37 hu38 ha39
    obtain ⟨a41, n42, c43, rfl, hr40, hs44⟩ := hu38
    have ha45 : AtK _ b35 o36 [.int .i64 x32.Doc, .slice a41 n42 c43] := ha39
    refine wl_val wn rfl (rv_loadS (cs := [.int .i64 x32.Doc, .slice a41 n42 c43]) tf64 rfl hS27 ha45 rfl) ?_
    refine wl_alloc wn rfl tf64 hS27 ?_
    intro g46 w47 hS48
    have hS49 : SH _ _ _ _ _ [obj g46 [.int .i64 0, .slice none 0 0] 64] := hS48
    refine va rfl rfl ?_
    refine wl_store (cs' := [.int .i64 x32.Doc, .slice a41 n42 c43]) (v := .agg #[.int .i64 x32.Doc, .slice a41 n42 c43]) wn tf64 rfl rfl rfl (by simp [Value.cells, Value.oneCell']) hS49 rfl rfl ?_
    intro w50 hS51
    refine nr ?_
    refine vm rfl rfl ?_
    refine vm rfl rfl ?_
    obtain ⟨x52, hx53, h54⟩ := ob h34
    refine wl_indexAddr (t := tGPost) wn rfl Try.underlying58 tf64 rfl rfl (SliceAt.mono hl25 hs8) hx53 ?_
    intro b55 o56 u57 hu58 ha59
    obtain ⟨a61, n62, c63, rfl, hr60, hs64⟩ := hu58
    have ha65 : AtK _ b55 o56 [.int .i64 x52.Doc, .slice a61 n62 c63] := ha59
    refine wl_val wn rfl (rv_loadS (cs := [.int .i64 x52.Doc, .slice a61 n62 c63]) tf64 rfl hS51 ha65 rfl) ?_
    refine wl_alloc wn rfl tf64 hS51 ?_
    intro g66 w67 hS68
    have hS69 : SH _ _ _ _ _ [obj g66 [.int .i64 0, .slice none 0 0] 64, _] := hS68
    refine wl_store (cs' := [.int .i64 x52.Doc, .slice a61 n62 c63]) (v := .agg #[.int .i64 x52.Doc, .slice a61 n62 c63]) wn tf64 rfl rfl rfl (by simp [Value.cells, Value.oneCell']) hS69 rfl rfl ?_
    intro w70 hS71
    refine nr ?_
    refine vm rfl rfl ?_
    refine wl_val wn rfl (rv_loadmS (ds := [.int .i64 x32.Doc, .slice a41 n42 c43]) tf64 rfl (.tail _ (.head _)) hS71 rfl rfl) ?_
    refine wl_val wn rfl (rv_loadmS (ds := [.int .i64 x52.Doc, .slice a61 n62 c63]) tf64 rfl (.head _) hS71 rfl rfl) ?_
    obtain ⟨r72, hx73, h74⟩ := ob h54
    refine wl_call wn rfl (rt_callv (vs := [.agg #[.int .i64 x32.Doc, .slice a41 n42 c43], .agg #[.int .i64 x52.Doc, .slice a61 n62 c63]]) (cap := #[]) co110 rfl rfl) ((ok_impl_samePost F) hS71.enter0 hr40 hs44 hr60 hs64 hx73) ?_
    rintro e78 w76 ⟨K75, rfl, hS77⟩
    refine ⟨_, rfl, ?_⟩
    have hS79 : SH _ _ _ _ _ [_, _] := SH.call0 hS71 hS77
    refine wl_val wn rfl (rv_not rfl) ?_
    refine nq ?_
    refine wc_cond rfl (fun hb80 => ?_) (fun hb80 => ?_)
    ·have h81 := cond_t hb80 h74
     refine sr ?_
     refine wl_val wn rfl (rv_assign (v := .bool false) rfl) ?_
     refine nq ?_
     refine wc_ret ?_
     refine qe_block_ret ?_
     refine qe_then_ret ?_
     refine qe_then_ret ?_
     obtain rfl := oi h81
     have e82 := hx31 _ rfl
     subst e82
     refine qe_block_ret ?_
     refine qe_then_ret ?_
     obtain rfl := oi h22
     refine qe_then_ret ?_
     obtain rfl := oi h13
     have hS83 : SH _ _ _ _ _ [] := SH.sublist hS79 (.cons _ (.cons _ .slnil))
     exact qe_ret (vs := [_]) Try.results109 ⟨rfl, trivial⟩ ⟨K75, rfl, hS83⟩
    ·have h81 := cond_f hb80 h74
     refine wc_skip ?_
     refine qe_block ?_
     refine qg ?_
     refine wl_val wn rfl (rv_add_to rfl rfl (w64_succ hi29 (SliceAt.max hs4))) ?_
     refine vm rfl rfl ?_
     refine wl_nil ?_
     obtain rfl := oi h81
     have hS84 : SH _ _ _ _ _ [] := SH.sublist hS79 (.cons _ (.cons _ .slnil))
     exact qe_mid' ⟨_, rfl, K75, rfl, hS84, (hl25.trans hS77.le)⟩ ⟨rfl, rfl, rfl, rfl, rfl, trivial⟩
   ·rintro s19 _ w26 hr85 ⟨K24, rfl, hS27, hl25⟩
    subst hr85
    refine sr ?_
    refine wl_val wn rfl (rv_lss rfl rfl) ?_
    refine ns ?_
    refine wc_cond_f rfl (decide_eq_false (by omega)) ?_
    refine wc_exit ?_
    refine qe_then_exit ?_
    refine qe_then_exit ?_
    refine qe_block_eq ?_
    obtain rfl := oi h22
    exact qe_mid' ⟨_, K24, rfl, rfl, hS27, hl25⟩ trivial
  ·rintro _ w17 ⟨s14, K15, rfl, rfl, hS18, hl16⟩
   refine qr ?_
   refine wl_val wn rfl (rv_assign (v := .bool true) rfl) ?_
   refine nq ?_
   refine wc_ret ?_
   obtain rfl := oi h13
   exact qe_ret (vs := [_]) Try.results109 ⟨rfl, trivial⟩ ⟨K15, rfl, hS18⟩

theorem ok_impl_sameEntry (F : Nat) {w : World} {K : KMap} {a3 : Option Addr} {n4 c5 : Nat} {a9 : Option Addr} {n10 c11 : Nat} {p0_a : GEntry} {p1_b : GEntry} {r : Bool} (hS : SH w K [] w K []) (hl1 : p0_a.Field.length ≤ maxLen) (hl2 : p0_a.Term.length ≤ maxLen) (hs6 : SliceAt tGPost K a3 n4 c5 p0_a.Posts) (hl7 : p1_b.Field.length ≤ maxLen) (hl8 : p1_b.Term.length ≤ maxLen) (hs12 : SliceAt tGPost K a9 n10 c11 p1_b.Posts) (hm : M.impl_sameEntry F p0_a p1_b = some r) :
  Calls Try.prog 72 #[.agg #[sv p0_a.Field, sv p0_a.Term, .slice a3 n4 c5], .agg #[sv p1_b.Field, sv p1_b.Term, .slice a9 n10 c11]] w fun e w' => ∃ (K' : KMap), e = .returned (.bool r) ∧ SH w K [] w' K' [] := by
 rw [M.impl_sameEntry] at hm
 refine calls_in Try.func72 rfl Try.ntmps72 rfl ?_
 refine sr ?_
 refine wl_box wn rfl rfl hS ?_
 intro g13 w14 hS15
 have hS16 : SH _ _ _ _ _ [obj g13 [sv p0_a.Field, sv p0_a.Term, .slice a3 n4 c5] 60] := hS15
 refine wl_box wn rfl rfl hS16 ?_
 intro g17 w18 hS19
 have hS20 : SH _ _ _ _ _ [obj g17 [sv p1_b.Field, sv p1_b.Term, .slice a9 n10 c11] 60, _] := hS19
 refine wl_val wn rfl (rv_assign (v := .bool false) rfl) ?_
 refine nr ?_
 refine wl_val wn rfl (rv_fieldAddr ff60_0 rfl) ?_
 refine wl_val wn rfl (rv_loadm1 tf9 rfl (.tail _ (.head _)) hS20 rfl) ?_
 refine wl_val wn rfl (rv_fieldAddr ff60_0 rfl) ?_
 refine wl_val wn rfl (rv_loadm1 tf9 rfl (.head _) hS20 rfl) ?_
 refine wl_val wn rfl (rv_seql rfl rfl) ?_
 refine vm rfl rfl ?_
 rcases bool_tf ((p0_a.Field == p1_b.Field)) with hb21 | hb21
 ·have h22 := cond_t hb21 hm
  refine wl_val (wg rfl rfl hb21) rfl (rv_fieldAddr ff60_1 rfl) ?_
  refine wl_val (wg rfl rfl hb21) rfl (rv_loadm1 tf9 rfl (.tail _ (.head _)) hS20 rfl) ?_
  refine wl_val (wg rfl rfl hb21) rfl (rv_fieldAddr ff60_1 rfl) ?_
  refine wl_val (wg rfl rfl hb21) rfl (rv_loadm1 tf9 rfl (.head _) hS20 rfl) ?_
  refine wl_val (wg rfl rfl hb21) rfl (rv_seql rfl rfl) ?_
  refine wl_val wn rfl (rv_pick_t rfl hb21 rfl) ?_
  refine vm rfl rfl ?_
  rcases bool_tf ((p0_a.Term == p1_b.Term)) with hb23 | hb23
  ·have h24 := cond_t hb23 h22
   refine wl_val (wg rfl rfl hb23) rfl (rv_fieldAddr ff60_2 rfl) ?_
   refine wl_val (wg rfl rfl hb23) rfl (rv_loadm1 tf58 rfl (.tail _ (.head _)) hS20 rfl) ?_
   refine wl_val (wg rfl rfl hb23) rfl (rv_fieldAddr ff60_2 rfl) ?_
   refine wl_val (wg rfl rfl hb23) rfl (rv_loadm1 tf58 rfl (.head _) hS20 rfl) ?_
   obtain ⟨r25, hx26, h27⟩ := ob h24
   refine wl_call (wg rfl rfl hb23) rfl (rt_call (vs := [.slice a3 n4 c5, .slice a9 n10 c11, .func (.func 110) #[] #[]]) co109 rfl) ((ok_slices_EqualFunc_Post__impl_samePost F) hS20.enter0 hs6 hs12 hx26) ?_
   rintro e31 w29 ⟨K28, rfl, hS30⟩
   refine ⟨_, rfl, ?_⟩
   have hS32 : SH _ _ _ _ _ [_, _] := SH.call0 hS20 hS30
   refine wl_val wn rfl (rv_pick_t rfl hb23 rfl) ?_
   refine va rfl rfl ?_
   refine nq ?_
   refine wc_ret ?_
   obtain rfl := oi h27
   have hS33 : SH _ _ _ _ _ [] := SH.sublist hS32 (.cons _ (.cons _ .slnil))
   exact qe_ret (vs := [_]) Try.results72 ⟨rfl, trivial⟩ ⟨K28, rfl, hS33⟩
  ·have h24 := cond_f hb23 h22
   refine wl_un (ug rfl rfl hb23) rfl ?_
   refine wl_un (ug rfl rfl hb23) rfl ?_
   refine wl_un (ug rfl rfl hb23) rfl ?_
   refine wl_un (ug rfl rfl hb23) rfl ?_
   refine wl_un (ug rfl rfl hb23) rfl ?_
   refine wl_val wn rfl (rv_pick_f (v := .bool false) rfl hb23 rfl) ?_
   refine va rfl rfl ?_
   refine nq ?_
   refine wc_ret ?_
   obtain rfl := oi h24
   have hS34 : SH _ _ _ _ _ [] := SH.sublist hS20 (.cons _ (.cons _ .slnil))
   exact qe_ret (vs := [_]) Try.results72 ⟨rfl, trivial⟩ ⟨K, rfl, hS34⟩
 ·have h22 := cond_f hb21 hm
  refine wl_un (ug rfl rfl hb21) rfl ?_
  refine wl_un (ug rfl rfl hb21) rfl ?_
  refine wl_un (ug rfl rfl hb21) rfl ?_
  refine wl_un (ug rfl rfl hb21) rfl ?_
  refine wl_un (ug rfl rfl hb21) rfl ?_
  refine wl_val wn rfl (rv_pick_f (v := .bool false) rfl hb21 rfl) ?_
  refine vm rfl rfl ?_
  refine wl_un (ug rfl rfl rfl) rfl ?_
  refine wl_un (ug rfl rfl rfl) rfl ?_
  refine wl_un (ug rfl rfl rfl) rfl ?_
  refine wl_un (ug rfl rfl rfl) rfl ?_
  refine wl_un (ug rfl rfl rfl) rfl ?_
  refine wl_val wn rfl (rv_pick_f (v := .bool false) rfl rfl rfl) ?_
  refine va rfl rfl ?_
  refine nq ?_
  refine wc_ret ?_
  obtain rfl := oi h22
  have hS35 : SH _ _ _ _ _ [] := SH.sublist hS20 (.cons _ (.cons _ .slnil))
  exact qe_ret (vs := [_]) Try.results72 ⟨rfl, trivial⟩ ⟨K, rfl, hS35⟩

set_option maxHeartbeats 2000000 in
theorem ok_slices_EqualFunc_Entry__impl_sameEntry (F : Nat) {w : World} {K : KMap} {a1 : Option Addr} {n2 c3 : Nat} {a5 : Option Addr} {n6 c7 : Nat} {p0_s1 : List GEntry} {p1_s2 : List GEntry} {r : Bool} (hS : SH w K [] w K []) (hs4 : SliceAt tGEntry K a1 n2 c3 p0_s1) (hs8 : SliceAt tGEntry K a5 n6 c7 p1_s2) (hm : M.slices_EqualFunc_Entry__impl_sameEntry F p0_s1 p1_s2 = some r) :
  Calls Try.prog 71 #[.slice a1 n2 c3, .slice a5 n6 c7, .func (.func 72) #[] #[]] w fun e w' => ∃ (K' : KMap), e = .returned (.bool r) ∧ SH w K [] w' K' [] := by
 rw [M.slices_EqualFunc_Entry__impl_sameEntry] at hm
 refine calls_in Try.func71 rfl Try.ntmps71 rfl ?_
 refine sr ?_
 refine wl_val wn rfl (rv_assign (v := .bool false) rfl) ?_
 refine nsr ?_
 refine vm rfl rfl ?_
 refine wl_val wn rfl (rv_len (t := tGEntry) Try.underlying40 rfl hs4) ?_
 refine vm rfl rfl ?_
 refine wl_val wn rfl (rv_len (t := tGEntry) Try.underlying40 rfl hs8) ?_
 refine wl_val wn rfl (rv_neq rfl rfl) ?_
 refine nq ?_
 refine wc_cond rfl (fun hb9 => ?_) (fun hb9 => ?_)
 ·have h10 := cond_t hb9 hm
  refine sr ?_
  refine wl_val wn rfl (rv_assign (v := .bool false) rfl) ?_
  refine nq ?_
  refine rr ?_
  obtain rfl := oi h10
  exact qe_ret (vs := [_]) Try.results71 ⟨rfl, trivial⟩ ⟨K, rfl, hS⟩
 ·have h10 := cond_f hb9 hm
  refine wc_skip ?_
  refine qs ?_
  refine sr ?_
  refine vm rfl rfl ?_
  refine wl_val wn rfl (rv_len (t := tGEntry) Try.underlying40 rfl hs4) ?_
  refine wl_val wn rfl (rv_move (v := .int .i64 0) rfl) ?_
  refine nq ?_
  obtain ⟨o11, h12, h13⟩ := ob h10
  refine wc_cutg (fun E' w' => ∃ (s14 : Unit) (K15 : KMap), o11 = .inl s14 ∧ E' = [] ∧ SH w K [] w' K15 [] ∧ KLe K K15) ?_ ?_
  ·refine wc_block ?_
   obtain ⟨r20, h21, h22⟩ := ob h12
   refine wc_for' (fun (i23 : Nat) (s19 : Unit) E' w' => ∃ (K24 : KMap), E' = [(1, .slice a5 n6 c7), (2, .func (.func 72) #[] #[]), (15, .slice a1 n2 c3), (16, .int .i64 (p0_s1.length : Int)), (17, .int .i64 ((i23 : Nat) : Int))] ∧ SH w K [] w' K24 [] ∧ KLe K K24) h21 ⟨K, rfl, hS, (KLe.refl _)⟩ ⟨rfl, rfl, rfl, rfl, rfl, trivial⟩ ?_ ?_
   ·rintro i23 s19 _ w26 r28 hi29 h30 hx31 ⟨K24, rfl, hS27, hl25⟩
    refine sr ?_
    refine wl_val wn rfl (rv_lss rfl rfl) ?_
    refine ns ?_
    refine wc_cond_t rfl (decide_eq_true (by omega)) (wc_skip (qe_seq (wc_seq ?_)))
    refine wc_block ?_
    refine sr ?_
    refine vm rfl rfl ?_
    obtain ⟨x32, hx33, h34⟩ := ob h30
    refine wl_indexAddr (t := tGEntry) wn rfl Try.underlying40 tf60 rfl rfl (SliceAt.mono hl25 hs4) hx33 ?_
    intro b35 o36 u37 hu38 ha39
    obtain ⟨a42, n43, c44, rfl, hl40, hl41, hs45⟩ := hu38
    have ha46 : AtK _ b35 o36 [sv x32.Field, sv x32.Term, .slice a42 n43 c44] := ha39
    refine wl_val wn rfl (rv_loadS (cs := [sv x32.Field, sv x32.Term, .slice a42 n43 c44]) tf60 rfl hS27 ha46 rfl) ?_
    refine wl_alloc wn rfl tf60 hS27 ?_
    intro g47 w48 hS49
    have hS50 : SH _ _ _ _ _ [obj g47 [sv [], sv [], .slice none 0 0] 60] := hS49
    refine va rfl rfl ?_
    refine wl_store (cs' := [sv x32.Field, sv x32.Term, .slice a42 n43 c44]) (v := .agg #[sv x32.Field, sv x32.Term, .slice a42 n43 c44]) wn tf60 rfl rfl rfl (by simp [Value.cells, Value.oneCell', sv]) hS50 rfl rfl ?_
    intro w51 hS52
    refine nr ?_
    refine vm rfl rfl ?_
    refine vm rfl rfl ?_
    obtain ⟨x53, hx54, h55⟩ := ob h34
    refine wl_indexAddr (t := tGEntry) wn rfl Try.underlying40 tf60 rfl rfl (SliceAt.mono hl25 hs8) hx54 ?_
    intro b56 o57 u58 hu59 ha60
    obtain ⟨a63, n64, c65, rfl, hl61, hl62, hs66⟩ := hu59
    have ha67 : AtK _ b56 o57 [sv x53.Field, sv x53.Term, .slice a63 n64 c65] := ha60
    refine wl_val wn rfl (rv_loadS (cs := [sv x53.Field, sv x53.Term, .slice a63 n64 c65]) tf60 rfl hS52 ha67 rfl) ?_
    refine wl_alloc wn rfl tf60 hS52 ?_
    intro g68 w69 hS70
    have hS71 : SH _ _ _ _ _ [obj g68 [sv [], sv [], .slice none 0 0] 60, _] := hS70
    refine wl_store (cs' := [sv x53.Field, sv x53.Term, .slice a63 n64 c65]) (v := .agg #[sv x53.Field, sv x53.Term, .slice a63 n64 c65]) wn tf60 rfl rfl rfl (by simp [Value.cells, Value.oneCell', sv]) hS71 rfl rfl ?_
    intro w72 hS73
    refine nr ?_
    refine vm rfl rfl ?_
    refine wl_val wn rfl (rv_loadmS (ds := [sv x32.Field, sv x32.Term, .slice a42 n43 c44]) tf60 rfl (.tail _ (.head _)) hS73 rfl rfl) ?_
    refine wl_val wn rfl (rv_loadmS (ds := [sv x53.Field, sv x53.Term, .slice a63 n64 c65]) tf60 rfl (.head _) hS73 rfl rfl) ?_
    obtain ⟨r74, hx75, h76⟩ := ob h55
    refine wl_call wn rfl (rt_callv (vs := [.agg #[sv x32.Field, sv x32.Term, .slice a42 n43 c44], .agg #[sv x53.Field, sv x53.Term, .slice a63 n64 c65]]) (cap := #[]) co72 rfl rfl) ((ok_impl_sameEntry F) hS73.enter0 hl40 hl41 hs45 hl61 hl62 hs66 hx75) ?_
    rintro e80 w78 ⟨K77, rfl, hS79⟩
    refine ⟨_, rfl, ?_⟩
    have hS81 : SH _ _ _ _ _ [_, _] := SH.call0 hS73 hS79
    refine wl_val wn rfl (rv_not rfl) ?_
    refine nq ?_
    refine wc_cond rfl (fun hb82 => ?_) (fun hb82 => ?_)
    ·have h83 := cond_t hb82 h76
     refine sr ?_
     refine wl_val wn rfl (rv_assign (v := .bool false) rfl) ?_
     refine nq ?_
     refine wc_ret ?_
     refine qe_block_ret ?_
     refine qe_then_ret ?_
     refine qe_then_ret ?_
     obtain rfl := oi h83
     have e84 := hx31 _ rfl
     subst e84
     refine qe_block_ret ?_
     refine qe_then_ret ?_
     obtain rfl := oi h22
     refine qe_then_ret ?_
     obtain rfl := oi h13
     have hS85 : SH _ _ _ _ _ [] := SH.sublist hS81 (.cons _ (.cons _ .slnil))
     exact qe_ret (vs := [_]) Try.results71 ⟨rfl, trivial⟩ ⟨K77, rfl, hS85⟩
    ·have h83 := cond_f hb82 h76
     refine wc_skip ?_
     refine qe_block ?_
     refine qg ?_
     refine wl_val wn rfl (rv_add_to rfl rfl (w64_succ hi29 (SliceAt.max hs4))) ?_
     refine vm rfl rfl ?_
     refine wl_nil ?_
     obtain rfl := oi h83
     have hS86 : SH _ _ _ _ _ [] := SH.sublist hS81 (.cons _ (.cons _ .slnil))
     exact qe_mid' ⟨_, rfl, K77, rfl, hS86, (hl25.trans hS79.le)⟩ ⟨rfl, rfl, rfl, rfl, rfl, trivial⟩
   ·rintro s19 _ w26 hr87 ⟨K24, rfl, hS27, hl25⟩
    subst hr87
    refine sr ?_
    refine wl_val wn rfl (rv_lss rfl rfl) ?_
    refine ns ?_
    refine wc_cond_f rfl (decide_eq_false (by omega)) ?_
    refine wc_exit ?_
    refine qe_then_exit ?_
    refine qe_then_exit ?_
    refine qe_block_eq ?_
    obtain rfl := oi h22
    exact qe_mid' ⟨_, K24, rfl, rfl, hS27, hl25⟩ trivial
  ·rintro _ w17 ⟨s14, K15, rfl, rfl, hS18, hl16⟩
   refine qr ?_
   refine wl_val wn rfl (rv_assign (v := .bool true) rfl) ?_
   refine nq ?_
   refine wc_ret ?_
   obtain rfl := oi h13
   exact qe_ret (vs := [_]) Try.results71 ⟨rfl, trivial⟩ ⟨K15, rfl, hS18⟩

theorem ok_impl_SegOk (F : Nat) {w : World} {K : KMap} {a1 : Option Addr} {n2 c3 : Nat} {a5 : Option Addr} {n6 c7 : Nat} {a9 : Option Addr} {n10 c11 : Nat} {a13 : Option Addr} {n14 c15 : Nat} {p0_c : GConf} {p1_s : GSeg} {r : Bool} (hS : SH w K [] w K []) (hs4 : SliceAt tStr K a1 n2 c3 p0_c.Stops) (hs8 : SliceAt tGSyn K a5 n6 c7 p0_c.Syns) (hs12 : SliceAt tGDoc K a9 n10 c11 p1_s.Docs) (hs16 : SliceAt tGEntry K a13 n14 c15 p1_s.Entries) (hm : M.impl_SegOk F p0_c p1_s = some r) :
  Calls Try.prog 25 #[.agg #[.slice a1 n2 c3, .slice a5 n6 c7], .agg #[.slice a9 n10 c11, .slice a13 n14 c15]] w fun e w' => ∃ (K' : KMap), e = .returned (.bool r) ∧ SH w K [] w' K' [] := by
 rw [M.impl_SegOk] at hm
 refine calls_in Try.func25 rfl Try.ntmps25 rfl ?_
 refine sr ?_
 refine wl_box wn rfl rfl hS ?_
 intro g17 w18 hS19
 have hS20 : SH _ _ _ _ _ [obj g17 [.slice a1 n2 c3, .slice a5 n6 c7] 39] := hS19
 refine wl_box wn rfl rfl hS20 ?_
 intro g21 w22 hS23
 have hS24 : SH _ _ _ _ _ [obj g21 [.slice a9 n10 c11, .slice a13 n14 c15] 42, _] := hS23
 refine wl_val wn rfl (rv_assign (v := .bool false) rfl) ?_
 refine ns ?_
 refine wc_seq ?_
 obtain ⟨o25, h26, h27⟩ := ob hm
 refine wc_cutg (fun E' w' => ∃ (K28 : KMap), E' = [(2, .pointer (some ⟨g17, 0, none⟩)), (3, .pointer (some ⟨g21, 0, none⟩)), (13, .bool o25)] ∧ SH w K [] w' K28 [obj g17 [.slice a1 n2 c3, .slice a5 n6 c7] 39, obj g21 [.slice a9 n10 c11, .slice a13 n14 c15] 42] ∧ KLe K K28) ?_ ?_
 ·refine wc_region ?_
  refine wl_val wn rfl (rv_loadmS (ds := [.slice a1 n2 c3, .slice a5 n6 c7]) tf39 rfl (.tail _ (.head _)) hS24 rfl rfl) ?_
  obtain ⟨r32, hx33, h34⟩ := ob h26
  refine wl_call wn rfl (rt_call (vs := [.agg #[.slice a1 n2 c3, .slice a5 n6 c7]]) co24 rfl) ((ok_impl_ConfOk F) hS24.enter0 hs4 hs8 hx33) ?_
  rintro e38 w36 ⟨K35, rfl, hS37⟩
  refine ⟨_, rfl, ?_⟩
  have hS39 : SH _ _ _ _ _ [_, _] := SH.call0 hS24 hS37
  refine wl_val wn rfl (rv_not rfl) ?_
  refine vm rfl rfl ?_
  rcases bool_tf ((!r32)) with hb40 | hb40
  ·have h41 := cond_t hb40 h34
   refine wl_un (ug rfl rfl hb40) rfl ?_
   refine wl_un (ug rfl rfl hb40) rfl ?_
   refine wl_un (ug rfl rfl hb40) rfl ?_
   refine wl_un (ug rfl rfl hb40) rfl ?_
   refine wl_val wn rfl (rv_pick_t (v := .bool true) rfl hb40 rfl) ?_
   refine wl_nil ?_
   obtain rfl := oi h41
   have hS42 : SH _ _ _ _ _ [_, _] := SH.front (p := [_]) hS39
   exact qe_mid' ⟨K35, rfl, hS42, hS37.le⟩ ⟨rfl, rfl, rfl, trivial⟩
  ·have h41 := cond_f hb40 h34
   refine wl_val (wg rfl rfl hb40) rfl (rv_fieldAddr ff42_0 rfl) ?_
   refine wl_val (wg rfl rfl hb40) rfl (rv_loadm1 tf23 rfl (.head _) hS39 rfl) ?_
   obtain ⟨r43, hx44, h45⟩ := ob h41
   refine wl_call (wg rfl rfl hb40) rfl (rt_call (vs := [.slice a9 n10 c11]) co12 rfl) ((ok_impl_DocsOk F) hS39.enter0 (SliceAt.mono hS37.le hs12) hx44) ?_
   rintro e49 w47 ⟨K46, rfl, hS48⟩
   refine ⟨_, rfl, ?_⟩
   have hS50 : SH _ _ _ _ _ [_, _] := SH.call0 hS39 hS48
   refine wl_val (wg rfl rfl hb40) rfl (rv_not rfl) ?_
   refine wl_val wn rfl (rv_pick_f rfl hb40 rfl) ?_
   refine wl_nil ?_
   obtain rfl := oi h45
   have hS51 : SH _ _ _ _ _ [_, _] := SH.front (p := [_]) hS50
   exact qe_mid' ⟨K46, rfl, hS51, (hS37.le.trans hS48.le)⟩ ⟨rfl, rfl, rfl, trivial⟩
 ·rintro _ w30 ⟨K28, rfl, hS31, hl29⟩
  refine qe_seq ?_
  refine wc_cond rfl (fun hb52 => ?_) (fun hb52 => ?_)
  ·have h53 := cond_t hb52 h27
   refine sr ?_
   refine wl_val wn rfl (rv_assign (v := .bool false) rfl) ?_
   refine nq ?_
   refine rr ?_
   obtain rfl := oi h53
   have hS54 : SH _ _ _ _ _ [] := SH.sublist hS31 (.cons _ (.cons _ .slnil))
   exact qe_ret (vs := [_]) Try.results25 ⟨rfl, trivial⟩ ⟨K28, rfl, hS54⟩
  ·have h53 := cond_f hb52 h27
   refine wc_skip ?_
   refine qs ?_
   refine wc_held (fun w' => Holds K28 w' ∧ HasObj g17 [.slice a1 n2 c3, .slice a5 n6 c7] w' ∧ HasObj g21 [.slice a9 n10 c11, .slice a13 n14 c15] w') (fun w' => True) 9 [] mixed ?_
   have hS56 := SH.drew hS31
   refine wg_val (i := 0) (listed' := #[true, false, false, false, false, false, false, false, false]) (HasObj g17 [.slice a1 n2 c3, .slice a5 n6 c7]) rfl (by kernel_rfl) (pk_then pk_body) (by kernel_rfl) rfl (by kernel_rfl) (by kernel_rfl) rfl (.inl fun _ h => h.2.1) ⟨⟨hS56.hasK (KLe.refl _), hS56.hasObj (.head _), hS56.hasObj (.tail _ (.head _))⟩, (fun _ => trivial), by decide⟩ wn rfl (fun _ h => rh_loadmS (ds := [.slice a1 n2 c3, .slice a5 n6 c7]) tf39 rfl rfl rfl h) ?_
   refine wg_val (i := 1) (listed' := #[true, true, false, false, false, false, false, false, false]) (fun _ => True) rfl (by kernel_rfl) (pk_then pk_body) (by kernel_rfl) rfl (by kernel_rfl) (by kernel_rfl) rfl (.inl fun _ _ => trivial) ⟨⟨hS56.hasK (KLe.refl _), hS56.hasObj (.head _), hS56.hasObj (.tail _ (.head _))⟩, (fun _ => trivial), by decide⟩ wn rfl (fun _ _ => (rv_fieldAddr ff42_0 rfl)) ?_
   refine wg_val (i := 2) (listed' := #[true, true, true, false, false, false, false, false, false]) (HasObj g21 [.slice a9 n10 c11, .slice a13 n14 c15]) rfl (by kernel_rfl) (pk_then pk_body) (by kernel_rfl) rfl (by kernel_rfl) (by kernel_rfl) rfl (.inl fun _ h => h.2.2) ⟨⟨hS56.hasK (KLe.refl _), hS56.hasObj (.head _), hS56.hasObj (.tail _ (.head _))⟩, (fun _ => trivial), by decide⟩ wn rfl (fun _ h => rh_loadm1 tf23 rfl rfl h) ?_
   refine wg_val (i := 5) (listed' := #[true, true, true, false, false, true, false, false, false]) (fun _ => True) rfl (by kernel_rfl) (pk_then pk_body) (by kernel_rfl) rfl (by kernel_rfl) (by kernel_rfl) rfl (.inl fun _ _ => trivial) ⟨⟨hS56.hasK (KLe.refl _), hS56.hasObj (.head _), hS56.hasObj (.tail _ (.head _))⟩, (fun _ => trivial), by decide⟩ wn rfl (fun _ _ => (rv_fieldAddr ff42_1 rfl)) ?_
   refine wg_val (i := 6) (listed' := #[true, true, true, false, false, true, true, false, false]) (HasObj g21 [.slice a9 n10 c11, .slice a13 n14 c15]) rfl (by kernel_rfl) (pk_then pk_body) (by kernel_rfl) rfl (by kernel_rfl) (by kernel_rfl) rfl (.inl fun _ h => h.2.2) ⟨⟨hS56.hasK (KLe.refl _), hS56.hasObj (.head _), hS56.hasObj (.tail _ (.head _))⟩, (fun _ => trivial), by decide⟩ wn rfl (fun _ h => rh_loadm1 tf40 rfl rfl h) ?_
   refine wg_one (i := 3) (by kernel_rfl) rfl ?_
   obtain ⟨r57, hx58, h59⟩ := ob h53
   refine wl_call wn rfl (rt_call (vs := [.agg #[.slice a1 n2 c3, .slice a5 n6 c7], .slice a9 n10 c11]) co21 rfl) ((ok_impl_SegOf F) hS56.enter0 (SliceAt.mono hl29 hs4) (SliceAt.mono hl29 hs8) (SliceAt.mono hl29 hs12) hx58) ?_
   rintro e71 w61 ⟨a63, n64, c65, a67, n68, c69, K60, rfl, hS62, hs66, hs70⟩
   refine ⟨_, rfl, ?_⟩
   have hS72 : SH _ _ _ _ _ [_, _, _] := SH.call0 hS56 hS62
   refine wl_nil (qe_held (listed' := #[true, true, true, true, false, true, true, false, false]) rfl ⟨⟨hS72.hasK hS62.le, hS72.hasObj (.tail _ (.head _)), hS72.hasObj (.tail _ (.tail _ (.head _)))⟩, (fun _ => trivial), by decide⟩ ?_)
   refine wg_val (i := 4) (listed' := #[true, true, true, true, true, true, true, false, false]) (fun _ => True) rfl (by kernel_rfl) (pk_then pk_body) (by kernel_rfl) rfl (by kernel_rfl) (by kernel_rfl) rfl (.inl fun _ _ => trivial) ⟨⟨hS72.hasK hS62.le, hS72.hasObj (.tail _ (.head _)), hS72.hasObj (.tail _ (.tail _ (.head _)))⟩, (fun _ => trivial), by decide⟩ wn rfl (fun _ _ => (rv_field fg42_1 tf40 rfl (.inl ⟨rfl, rfl⟩))) ?_
   refine wg_one (i := 7) (by kernel_rfl) rfl ?_
   obtain ⟨r73, hx74, h75⟩ := ob h59
   refine wl_call wn rfl (rt_call (vs := [.slice a67 n68 c69, .slice a13 n14 c15, .func (.func 72) #[] #[]]) co71 rfl) ((ok_slices_EqualFunc_Entry__impl_sameEntry F) hS72.enter0 hs70 (SliceAt.mono (hl29.trans hS62.le) hs16) hx74) ?_
   rintro e79 w77 ⟨K76, rfl, hS78⟩
   refine ⟨_, rfl, ?_⟩
   have hS80 : SH _ _ _ _ _ [_, _, _] := SH.call0 hS72 hS78
   refine wl_nil (qe_held (listed' := #[true, true, true, true, true, true, true, true, false]) rfl ⟨⟨hS80.hasK (hS62.le.trans hS78.le), hS80.hasObj (.tail _ (.head _)), hS80.hasObj (.tail _ (.tail _ (.head _)))⟩, (fun _ => trivial), by decide⟩ ?_)
   refine wg_val (i := 8) (listed' := #[true, true, true, true, true, true, true, true, true]) (fun _ => True) rfl (by kernel_rfl) (pk_then pk_body) (by kernel_rfl) rfl (by kernel_rfl) (by kernel_rfl) rfl (.inl fun _ _ => trivial) ⟨⟨hS80.hasK (hS62.le.trans hS78.le), hS80.hasObj (.tail _ (.head _)), hS80.hasObj (.tail _ (.tail _ (.head _)))⟩, (fun _ => trivial), by decide⟩ wn rfl (fun _ _ => (rv_assign rfl)) ?_
   refine wg_done (by kernel_rfl) ?_
   refine qe_seq ?_
   refine wc_ret ?_
   obtain rfl := oi h75
   have hS81 : SH _ _ _ _ _ [] := SH.sublist hS80 (.cons _ (.cons _ (.cons _ .slnil)))
   exact qe_ret (vs := [_]) Try.results25 ⟨rfl, trivial⟩ ⟨K76, rfl, hS81⟩

theorem ok_impl_Seg_posts (F : Nat) {w : World} {K : KMap} {g1 : Nat} {a2 : Option Addr} {n3 c4 : Nat} {a6 : Option Addr} {n7 c8 : Nat} {p0_s : GSeg} {p1_field : Str} {p2_term : Str} {r : (List GPost)} (hS : SH w K (List.flatMap Item.gs [obj g1 [.slice a2 n3 c4, .slice a6 n7 c8] 42]) w K [obj g1 [.slice a2 n3 c4, .slice a6 n7 c8] 42]) (hs5 : SliceAt tGDoc K a2 n3 c4 p0_s.Docs) (hs9 : SliceAt tGEntry K a6 n7 c8 p0_s.Entries) (hl10 : p1_field.length ≤ maxLen) (hl11 : p2_term.length ≤ maxLen) (hm : M.impl_Seg_posts F p0_s p1_field p2_term = some r) :
  Calls Try.prog 75 #[.pointer (some ⟨g1, 0, none⟩), sv p1_field, sv p2_term] w fun e w' => ∃ (a_1 : Option Addr) (n_2 c_3 : Nat) (K' : KMap), e = .returned (.slice a_1 n_2 c_3) ∧ SH w K (List.flatMap Item.gs [obj g1 [.slice a2 n3 c4, .slice a6 n7 c8] 42]) w' K' [obj g1 [.slice a2 n3 c4, .slice a6 n7 c8] 42] ∧ SliceAt tGPost K' a_1 n_2 c_3 r := by
 rw [M.impl_Seg_posts] at hm
 refine calls_in Try.func75 rfl Try.ntmps75 rfl ?_
 refine sr ?_
 refine wl_val wn rfl (rv_assign (v := .slice none 0 0) rfl) ?_
 refine nsr ?_
 refine vm rfl rfl ?_
 refine wl_val wn rfl (rv_nilCheck rfl) ?_
 refine wl_val wn rfl (rv_fieldAddr ff42_1 rfl) ?_
 refine wl_val wn rfl (rv_loadm1 tf40 rfl (.head _) hS rfl) ?_
 refine wl_val wn rfl (rv_len (t := tGEntry) Try.underlying40 rfl hs9) ?_
 refine wl_val wn rfl (rv_move (v := .int .i64 0) rfl) ?_
 refine nq ?_
 obtain ⟨o12, h13, h14⟩ := ob hm
 refine wc_cutg (fun E' w' => ∃ (s15 : Unit) (K16 : KMap), o12 = .inl s15 ∧ E' = [(0, .pointer (some ⟨g1, 0, none⟩))] ∧ SH w K (List.flatMap Item.gs [obj g1 [.slice a2 n3 c4, .slice a6 n7 c8] 42]) w' K16 [obj g1 [.slice a2 n3 c4, .slice a6 n7 c8] 42] ∧ KLe K K16) ?_ ?_
 ·refine wc_block ?_
  obtain ⟨r21, h22, h23⟩ := ob h13
  refine wc_for' (fun (i24 : Nat) (s20 : Unit) E' w' => ∃ (K25 : KMap), E' = [(0, .pointer (some ⟨g1, 0, none⟩)), (1, sv p1_field), (2, sv p2_term), (12, .slice a6 n7 c8), (13, .int .i64 (p0_s.Entries.length : Int)), (14, .int .i64 ((i24 : Nat) : Int))] ∧ SH w K (List.flatMap Item.gs [obj g1 [.slice a2 n3 c4, .slice a6 n7 c8] 42]) w' K25 [obj g1 [.slice a2 n3 c4, .slice a6 n7 c8] 42] ∧ KLe K K25) h22 ⟨K, rfl, hS, (KLe.refl _)⟩ ⟨rfl, rfl, rfl, rfl, rfl, rfl, trivial⟩ ?_ ?_
  ·rintro i24 s20 _ w27 r29 hi30 h31 hx32 ⟨K25, rfl, hS28, hl26⟩
   refine sr ?_
   refine wl_val wn rfl (rv_lss rfl rfl) ?_
   refine ns ?_
   refine wc_cond_t rfl (decide_eq_true (by omega)) (wc_skip (qe_seq (wc_seq ?_)))
   refine wc_block ?_
   refine sr ?_
   obtain ⟨x33, hx34, h35⟩ := ob h31
   refine wl_indexAddr (t := tGEntry) wn rfl Try.underlying40 tf60 rfl rfl (SliceAt.mono hl26 hs9) hx34 ?_
   intro b36 o37 u38 hu39 ha40
   obtain ⟨a43, n44, c45, rfl, hl41, hl42, hs46⟩ := hu39
   have ha47 : AtK _ b36 o37 [sv x33.Field, sv x33.Term, .slice a43 n44 c45] := ha40
   refine wl_val wn rfl (rv_loadS (cs := [sv x33.Field, sv x33.Term, .slice a43 n44 c45]) tf60 rfl hS28 ha47 rfl) ?_
   refine wl_alloc wn rfl tf60 hS28 ?_
   intro g48 w49 hS50
   have hS51 : SH _ _ _ _ _ [obj g48 [sv [], sv [], .slice none 0 0] 60, _] := hS50
   refine wl_store (cs' := [sv x33.Field, sv x33.Term, .slice a43 n44 c45]) (v := .agg #[sv x33.Field, sv x33.Term, .slice a43 n44 c45]) wn tf60 rfl rfl rfl (by simp [Value.cells, Value.oneCell', sv]) hS51 rfl rfl ?_
   intro w52 hS53
   refine ns ?_
   obtain ⟨o54, h55, h56⟩ := ob h35
   refine wc_cutg (fun E' w' => ∃ (K57 : KMap), E' = [(0, .pointer (some ⟨g1, 0, none⟩)), (1, sv p1_field), (2, sv p2_term), (8, .pointer (some ⟨g48, 0, none⟩)), (12, .slice a6 n7 c8), (13, .int .i64 (p0_s.Entries.length : Int)), (14, .int .i64 ((i24 : Nat) : Int)), (27, .bool o54)] ∧ SH w K (List.flatMap Item.gs [obj g1 [.slice a2 n3 c4, .slice a6 n7 c8] 42]) w' K57 [obj g1 [.slice a2 n3 c4, .slice a6 n7 c8] 42, obj g48 [sv x33.Field, sv x33.Term, .slice a43 n44 c45] 60] ∧ KLe K25 K57) ?_ ?_
   ·refine wc_region ?_
    refine wl_val wn rfl (rv_fieldAddr ff60_0 rfl) ?_
    refine wl_val wn rfl (rv_loadm1 tf9 rfl (.head _) hS53 rfl) ?_
    refine vm rfl rfl ?_
    refine wl_val wn rfl (rv_seql rfl rfl) ?_
    refine vm rfl rfl ?_
    rcases bool_tf ((x33.Field == p1_field)) with hb61 | hb61
    ·have h62 := cond_t hb61 h55
     refine wl_val (wg rfl rfl hb61) rfl (rv_fieldAddr ff60_1 rfl) ?_
     refine wl_val (wg rfl rfl hb61) rfl (rv_loadm1 tf9 rfl (.head _) hS53 rfl) ?_
     refine wl_val (wg rfl rfl hb61) rfl (rv_move rfl) ?_
     refine wl_val (wg rfl rfl hb61) rfl (rv_seql rfl rfl) ?_
     refine wl_val wn rfl (rv_pick_t rfl hb61 rfl) ?_
     refine wl_nil ?_
     obtain rfl := oi h62
     have hS63 : SH _ _ _ _ _ [_, _] := SH.front (p := [_]) hS53
     exact qe_mid' ⟨K25, rfl, hS63, (KLe.refl _)⟩ ⟨rfl, rfl, rfl, rfl, rfl, rfl, rfl, rfl, trivial⟩
    ·have h62 := cond_f hb61 h55
     refine wl_un (ug rfl rfl hb61) rfl ?_
     refine wl_un (ug rfl rfl hb61) rfl ?_
     refine wl_un (ug rfl rfl hb61) rfl ?_
     refine wl_un (ug rfl rfl hb61) rfl ?_
     refine wl_val wn rfl (rv_pick_f (v := .bool false) rfl hb61 rfl) ?_
     refine wl_nil ?_
     obtain rfl := oi h62
     have hS64 : SH _ _ _ _ _ [_, _] := SH.front (p := [_]) hS53
     exact qe_mid' ⟨K25, rfl, hS64, (KLe.refl _)⟩ ⟨rfl, rfl, rfl, rfl, rfl, rfl, rfl, rfl, trivial⟩
   ·rintro _ w59 ⟨K57, rfl, hS60, hl58⟩
    refine qe_seq ?_
    refine wc_cond rfl (fun hb65 => ?_) (fun hb65 => ?_)
    ·have h66 := cond_t hb65 h56
     refine sr ?_
     refine wl_val wn rfl (rv_fieldAddr ff60_2 rfl) ?_
     refine wl_val wn rfl (rv_loadm1 tf58 rfl (.tail _ (.head _)) hS60 rfl) ?_
     refine va rfl rfl ?_
     refine nq ?_
     refine wc_ret ?_
     refine qe_block_ret ?_
     refine qe_then_ret ?_
     refine qe_then_ret ?_
     obtain rfl := oi h66
     have e67 := hx32 _ rfl
     subst e67
     refine qe_block_ret ?_
     refine qe_then_ret ?_
     obtain rfl := oi h23
     refine qe_then_ret ?_
     obtain rfl := oi h14
     have hS68 : SH _ _ _ _ _ [_] := SH.sublist hS60 (.cons_cons _ (.cons _ .slnil))
     exact qe_ret (vs := [_]) Try.results75 ⟨rfl, trivial⟩ ⟨a43, n44, c45, K57, rfl, hS68, (SliceAt.mono hl58 hs46)⟩
    ·have h66 := cond_f hb65 h56
     refine wc_skip ?_
     refine qe_block ?_
     refine qg ?_
     refine wl_val wn rfl (rv_add_to rfl rfl (w64_succ hi30 (SliceAt.max hs9))) ?_
     refine vm rfl rfl ?_
     refine wl_nil ?_
     obtain rfl := oi h66
     have hS69 : SH _ _ _ _ _ [_] := SH.sublist hS60 (.cons_cons _ (.cons _ .slnil))
     exact qe_mid' ⟨_, rfl, K57, rfl, hS69, (hl26.trans hl58)⟩ ⟨rfl, rfl, rfl, rfl, rfl, rfl, trivial⟩
  ·rintro s20 _ w27 hr70 ⟨K25, rfl, hS28, hl26⟩
   subst hr70
   refine sr ?_
   refine wl_val wn rfl (rv_lss rfl rfl) ?_
   refine ns ?_
   refine wc_cond_f rfl (decide_eq_false (by omega)) ?_
   refine wc_exit ?_
   refine qe_then_exit ?_
   refine qe_then_exit ?_
   refine qe_block_eq ?_
   obtain rfl := oi h23
   exact qe_mid' ⟨_, K25, rfl, rfl, hS28, hl26⟩ ⟨rfl, trivial⟩
 ·rintro _ w18 ⟨s15, K16, rfl, rfl, hS19, hl17⟩
  refine qr ?_
  refine wl_val wn rfl (rv_assign (v := .slice none 0 0) rfl) ?_
  refine nq ?_
  refine wc_ret ?_
  obtain rfl := oi h14
  exact qe_ret (vs := [_]) Try.results75 ⟨rfl, trivial⟩ ⟨none, 0, 0, K16, rfl, hS19, (SliceAt.nil _ _)⟩

set_option maxHeartbeats 2000000 in
theorem ok_impl_SegPosts (F : Nat) {w : World} {K : KMap} {a1 : Option Addr} {n2 c3 : Nat} {a5 : Option Addr} {n6 c7 : Nat} {a9 : Option Addr} {n10 c11 : Nat} {a13 : Option Addr} {n14 c15 : Nat} {p0_c : GConf} {p1_s : GSeg} {p2_field : Str} {p3_term : Str} {r : (List GPost)} (hS : SH w K [] w K []) (hs4 : SliceAt tStr K a1 n2 c3 p0_c.Stops) (hs8 : SliceAt tGSyn K a5 n6 c7 p0_c.Syns) (hs12 : SliceAt tGDoc K a9 n10 c11 p1_s.Docs) (hs16 : SliceAt tGEntry K a13 n14 c15 p1_s.Entries) (hl17 : p2_field.length ≤ maxLen) (hl18 : p3_term.length ≤ maxLen) (hm : M.impl_SegPosts F p0_c p1_s p2_field p3_term = some r) :
  Calls Try.prog 28 #[.agg #[.slice a1 n2 c3, .slice a5 n6 c7], .agg #[.slice a9 n10 c11, .slice a13 n14 c15], sv p2_field, sv p3_term] w fun e w' => ∃ (a_1 : Option Addr) (n_2 c_3 : Nat) (K' : KMap), e = .returned (.slice a_1 n_2 c_3) ∧ SH w K [] w' K' [tail (.slice a_1 n_2 c_3) 64 2] ∧ SliceAt tGPost K' a_1 n_2 c_3 r := by
 rw [M.impl_SegPosts] at hm
 refine calls_in Try.func28 rfl Try.ntmps28 rfl ?_
 refine sr ?_
 refine wl_box wn rfl rfl hS ?_
 intro g19 w20 hS21
 have hS22 : SH _ _ _ _ _ [obj g19 [.slice a1 n2 c3, .slice a5 n6 c7] 39] := hS21
 refine wl_box wn rfl rfl hS22 ?_
 intro g23 w24 hS25
 have hS26 : SH _ _ _ _ _ [obj g23 [.slice a9 n10 c11, .slice a13 n14 c15] 42, _] := hS25
 refine wl_val wn rfl (rv_assign (v := .slice none 0 0) rfl) ?_
 refine nr ?_
 refine wl_buildSlice0 tGPost wn rfl Try.underlying58 tf64 hS26 ?_
 intro a27 w28 K29 hl30 hs31 hS32
 refine va rfl rfl ?_
 refine nsr ?_
 refine wl_val wn rfl (rv_loadmS (ds := [.slice a1 n2 c3, .slice a5 n6 c7]) tf39 rfl (.tail _ (.tail _ (.head _))) hS32 rfl rfl) ?_
 refine wl_val wn rfl (rv_loadmS (ds := [.slice a9 n10 c11, .slice a13 n14 c15]) tf42 rfl (.tail _ (.head _)) hS32 rfl rfl) ?_
 obtain ⟨r33, hx34, h35⟩ := ob hm
 refine wl_call wn rfl (rt_call (vs := [.agg #[.slice a1 n2 c3, .slice a5 n6 c7], .agg #[.slice a9 n10 c11, .slice a13 n14 c15]]) co25 rfl) ((ok_impl_SegOk F) hS32.enter0 (SliceAt.mono hl30 hs4) (SliceAt.mono hl30 hs8) (SliceAt.mono hl30 hs12) (SliceAt.mono hl30 hs16) hx34) ?_
 rintro e39 w37 ⟨K36, rfl, hS38⟩
 refine ⟨_, rfl, ?_⟩
 have hS40 : SH _ _ _ _ _ [_, _, _] := SH.call0 hS32 hS38
 refine wl_val wn rfl (rv_not rfl) ?_
 refine nq ?_
 refine wc_cond rfl (fun hb41 => ?_) (fun hb41 => ?_)
 ·have h42 := cond_t hb41 h35
  refine sr ?_
  refine vm rfl rfl ?_
  refine va rfl rfl ?_
  refine nq ?_
  refine rr ?_
  obtain rfl := oi h42
  have hS43 : SH _ _ _ _ _ [_] := SH.sublist hS40 (.cons_cons _ (.cons _ (.cons _ .slnil)))
  exact qe_ret (vs := [_]) Try.results28 ⟨rfl, trivial⟩ ⟨a27, 0, 0, K36, rfl, hS43, (SliceAt.mono hS38.le hs31)⟩
 ·have h42 := cond_f hb41 h35
  refine wc_skip ?_
  refine qs ?_
  refine sr ?_
  refine vm rfl rfl ?_
  refine vm rfl rfl ?_
  obtain ⟨r44, hx45, h46⟩ := ob h42
  have hS47 : SH _ _ _ _ _ [_, _, _] := SH.front (p := [_]) hS40
  refine wl_call wn rfl (rt_call (vs := [.pointer (some ⟨g23, 0, none⟩), sv p2_field, sv p3_term]) co75 rfl) ((ok_impl_Seg_posts F) (SH.enter (Lin := [_]) hS47) (SliceAt.mono (hl30.trans hS38.le) hs12) (SliceAt.mono (hl30.trans hS38.le) hs16) hl17 hl18 hx45) ?_
  rintro e55 w49 ⟨a51, n52, c53, K48, rfl, hS50, hs54⟩
  refine ⟨_, rfl, ?_⟩
  have hS56 : SH _ _ _ _ _ [_, _, _] := SH.call (Lin := [_]) hS47 hS50
  refine wl_val wn rfl (rv_len (t := tGPost) Try.underlying58 rfl hs54) ?_
  refine wl_val wn rfl (rv_move (v := .int .i64 0) rfl) ?_
  refine nq ?_
  obtain ⟨o57, h58, h59⟩ := ob h46
  refine wc_cutg (fun E' w' => ∃ (a64 : Option Addr) (n65 c66 : Nat) (K60 : KMap), E' = [(9, .slice a64 n65 c66)] ∧ SH w K [] w' K60 [tail (.slice a64 n65 c66) 64 2] ∧ KLe K48 K60 ∧ SliceAt tGPost K60 a64 n65 c66 o57) ?_ ?_
  ·refine wc_block ?_
   obtain ⟨r69, h70, h71⟩ := ob h58
   have hS81 : SH _ _ _ _ _ [_] := SH.sublist hS56 (.cons _ (.cons_cons _ (.cons _ .slnil)))
   refine wc_forE' (fun (i72 : Nat) (s68 : (List GPost)) E' w' => ∃ (a77 : Option Addr) (n78 c79 : Nat) (K73 : KMap), E' = [(9, .slice a77 n78 c79), (20, .slice a51 n52 c53), (21, .int .i64 (r44.length : Int)), (22, .int .i64 ((i72 : Nat) : Int))] ∧ SH w K [] w' K73 [tail (.slice a77 n78 c79) 64 2] ∧ KLe K48 K73 ∧ SliceAt tGPost K73 a77 n78 c79 s68) h70 ⟨a27, 0, 0, K48, rfl, hS81, (KLe.refl _), (SliceAt.mono (hS38.le.trans hS50.le) hs31)⟩ ⟨rfl, rfl, rfl, rfl, trivial⟩ ?_ ?_
   ·rintro i72 s68 _ w75 r82 hi83 h84 ⟨a77, n78, c79, K73, rfl, hS76, hl74, hs80⟩
    refine sr ?_
    refine wl_val wn rfl (rv_lss rfl rfl) ?_
    refine ns ?_
    refine wc_cond_t rfl (decide_eq_true (by omega)) (wc_skip (qe_seq (wc_seq ?_)))
    refine wc_block ?_
    refine sr ?_
    obtain ⟨x86, hx87, h88⟩ := ob h84
    refine wl_indexAddr (t := tGPost) wn rfl Try.underlying58 tf64 rfl rfl (SliceAt.mono hl74 hs54) hx87 ?_
    intro b89 o90 u91 hu92 ha93
    obtain ⟨a95, n96, c97, rfl, hr94, hs98⟩ := hu92
    have ha99 : AtK _ b89 o90 [.int .i64 x86.Doc, .slice a95 n96 c97] := ha93
    refine wl_val wn rfl (rv_loadS (cs := [.int .i64 x86.Doc, .slice a95 n96 c97]) tf64 rfl hS76 ha99 rfl) ?_
    refine wl_alloc wn rfl tf64 hS76 ?_
    intro g100 w101 hS102
    have hS103 : SH _ _ _ _ _ [obj g100 [.int .i64 0, .slice none 0 0] 64, _] := hS102
    refine wl_store (cs' := [.int .i64 x86.Doc, .slice a95 n96 c97]) (v := .agg #[.int .i64 x86.Doc, .slice a95 n96 c97]) wn tf64 rfl rfl rfl (by simp [Value.cells, Value.oneCell']) hS103 rfl rfl ?_
    intro w104 hS105
    refine nq ?_
    refine wc_held (fun w' => Holds K73 w' ∧ HasObj g100 [.int .i64 x86.Doc, .slice a95 n96 c97] w') (fun w' => True) 11 [] mixed ?_
    have hS107 := SH.drew hS105
    refine wg_val (i := 0) (listed' := #[true, false, false, false, false, false, false, false, false, false, false]) (fun _ => True) rfl (by kernel_rfl) (pk_block (pk_then (pk_then (pk_block (pk_then (pk_then pk_body)))))) (by kernel_rfl) rfl (by kernel_rfl) (by kernel_rfl) rfl (.inl fun _ _ => trivial) ⟨⟨hS107.hasK (KLe.refl _), hS107.hasObj (.head _)⟩, (fun _ => trivial), by decide⟩ wn rfl (fun _ _ => (rv_move rfl)) ?_
    refine wg_val (i := 1) (listed' := #[true, true, false, false, false, false, false, false, false, false, false]) (fun _ => True) rfl (by kernel_rfl) (pk_block (pk_then (pk_then (pk_block (pk_then (pk_then pk_body)))))) (by kernel_rfl) rfl (by kernel_rfl) (by kernel_rfl) rfl (.inl fun _ _ => trivial) ⟨⟨hS107.hasK (KLe.refl _), hS107.hasObj (.head _)⟩, (fun _ => trivial), by decide⟩ wn rfl (fun _ _ => (rv_fieldAddr ff64_0 rfl)) ?_
    refine wg_val (i := 2) (listed' := #[true, true, true, false, false, false, false, false, false, false, false]) (HasObj g100 [.int .i64 x86.Doc, .slice a95 n96 c97]) rfl (by kernel_rfl) (pk_block (pk_then (pk_then (pk_block (pk_then (pk_then pk_body)))))) (by kernel_rfl) rfl (by kernel_rfl) (by kernel_rfl) rfl (.inl fun _ h => h.2) ⟨⟨hS107.hasK (KLe.refl _), hS107.hasObj (.head _)⟩, (fun _ => trivial), by decide⟩ wn rfl (fun _ h => rh_loadm1 tf3 rfl rfl h) ?_
    refine wg_val (i := 4) (listed' := #[true, true, true, false, true, false, false, false, false, false, false]) (fun _ => True) rfl (by kernel_rfl) (pk_block (pk_then (pk_then (pk_block (pk_then (pk_then pk_body)))))) (by kernel_rfl) rfl (by kernel_rfl) (by kernel_rfl) rfl (.inl fun _ _ => trivial) ⟨⟨hS107.hasK (KLe.refl _), hS107.hasObj (.head _)⟩, (fun _ => trivial), by decide⟩ wn rfl (fun _ _ => (rv_fieldAddr ff64_1 rfl)) ?_
    refine wg_val (i := 5) (listed' := #[true, true, true, false, true, true, false, false, false, false, false]) (HasObj g100 [.int .i64 x86.Doc, .slice a95 n96 c97]) rfl (by kernel_rfl) (pk_block (pk_then (pk_then (pk_block (pk_then (pk_then pk_body)))))) (by kernel_rfl) rfl (by kernel_rfl) (by kernel_rfl) rfl (.inl fun _ h => h.2) ⟨⟨hS107.hasK (KLe.refl _), hS107.hasObj (.head _)⟩, (fun _ => trivial), by decide⟩ wn rfl (fun _ h => rh_loadm1 tf24 rfl rfl h) ?_
    refine wg_one (i := 3) (by kernel_rfl) rfl ?_
    refine wl_buildSlice0 tInt wn rfl Try.underlying24 tf3 hS107 ?_
    intro a108 w109 K110 hl111 hs112 hS113
    refine wl_nil (qe_held (listed' := #[true, true, true, true, true, true, false, false, false, false, false]) rfl ⟨⟨hS113.hasK hl111, hS113.hasObj (.tail _ (.head _))⟩, (fun _ => trivial), by decide⟩ ?_)
    refine wg_one (i := 6) (by kernel_rfl) rfl ?_
    obtain ⟨x114, hx115, h116⟩ := ob h88
    refine wl_append (t := tInt) wn rfl Try.underlying24 tf3 rfl rfl rfl rfl rfl hs112 (SliceAt.mono hl111 hs98) hx115 hS113 ?_
    intro a117 n118 c119 w120 K121 hl122 hs123 hS124
    refine wl_nil (qe_held (listed' := #[true, true, true, true, true, true, true, false, false, false, false]) rfl ⟨⟨hS124.hasK (hl111.trans hl122), hS124.hasObj (.tail _ (.head _))⟩, (fun _ => trivial), by decide⟩ ?_)
    refine wg_val (i := 7) (listed' := #[true, true, true, true, true, true, true, true, false, false, false]) (fun _ => True) rfl (by kernel_rfl) (pk_block (pk_then (pk_then (pk_block (pk_then (pk_then pk_body)))))) (by kernel_rfl) rfl (by kernel_rfl) (by kernel_rfl) rfl (.inl fun _ _ => trivial) ⟨⟨hS124.hasK (hl111.trans hl122), hS124.hasObj (.tail _ (.head _))⟩, (fun _ => trivial), by decide⟩ wn rfl (fun _ _ => (rv_build (cs := #[.int .i64 x86.Doc, .slice a117 n118 c119]) sp64 tf64 rfl (by kernel_rfl))) ?_
    refine wg_one (i := 8) (by kernel_rfl) rfl ?_
    refine wl_buildSlice (t := tGPost) (n := 1) (pv := [(0, .agg #[.int .i64 x86.Doc, .slice a117 n118 c119])]) (cs := [.int .i64 x86.Doc, .slice a117 n118 c119]) (xs := [(GPost.mk x86.Doc x114)]) wn rfl Try.underlying58 tf64 rfl rfl rfl (by kernel_rfl) rfl rfl (lit_cons (u := .agg #[.int .i64 x86.Doc, .slice a117 n118 c119]) (z := (GPost.mk x86.Doc x114)) ⟨a117, n118, c119, rfl, hr94, hs123⟩ lit_nil) hS124 ?_
    intro a125 w126 K127 hl128 hs129 hS130
    refine wl_nil (qe_held (listed' := #[true, true, true, true, true, true, true, true, true, false, false]) rfl ⟨⟨hS130.hasK ((hl111.trans hl122).trans hl128), hS130.hasObj (.tail _ (.tail _ (.head _)))⟩, (fun _ => trivial), by decide⟩ ?_)
    refine wg_one (i := 9) (by kernel_rfl) rfl ?_
    have hS131 : SH _ _ _ _ _ [_, _, _, _] := SH.front (p := [_, _, _]) hS130
    obtain ⟨x132, hx133, h134⟩ := ob h116
    refine wl_append (t := tGPost) wn rfl Try.underlying58 tf64 rfl rfl rfl rfl rfl (SliceAt.mono ((hl111.trans hl122).trans hl128) hs80) hs129 hx133 hS131 ?_
    intro a135 n136 c137 w138 K139 hl140 hs141 hS142
    refine wl_nil (qe_held (listed' := #[true, true, true, true, true, true, true, true, true, true, false]) rfl ⟨⟨hS142.hasK (((hl111.trans hl122).trans hl128).trans hl140), hS142.hasObj (.tail _ (.tail _ (.tail _ (.head _))))⟩, (fun _ => trivial), by decide⟩ ?_)
    refine wg_val (i := 10) (listed' := #[true, true, true, true, true, true, true, true, true, true, true]) (fun _ => True) rfl (by kernel_rfl) (pk_block (pk_then (pk_then (pk_block (pk_then (pk_then pk_body)))))) (by kernel_rfl) rfl (by kernel_rfl) (by kernel_rfl) rfl (.inl fun _ _ => trivial) ⟨⟨hS142.hasK (((hl111.trans hl122).trans hl128).trans hl140), hS142.hasObj (.tail _ (.tail _ (.tail _ (.head _))))⟩, (fun _ => trivial), by decide⟩ wn rfl (fun _ _ => (rv_assign rfl)) ?_
    refine wg_done (by kernel_rfl) ?_
    refine qe_block ?_
    refine qg ?_
    refine wl_val wn rfl (rv_add_to rfl rfl (w64_succ hi83 (SliceAt.max hs54))) ?_
    refine vm rfl rfl ?_
    refine wl_nil ?_
    obtain rfl := oi h134
    have hS143 : SH _ _ _ _ _ [_] := SH.sublist hS142 (.cons_cons _ (.cons _ (.cons _ (.cons _ .slnil))))
    exact qe_mid' ⟨a135, n136, c137, K139, rfl, hS143, ((((hl74.trans hl111).trans hl122).trans hl128).trans hl140), hs141⟩ ⟨rfl, rfl, rfl, rfl, trivial⟩
   ·rintro s68 _ w75 hr144 ⟨a77, n78, c79, K73, rfl, hS76, hl74, hs80⟩
    subst hr144
    refine sr ?_
    refine wl_val wn rfl (rv_lss rfl rfl) ?_
    refine ns ?_
    refine wc_cond_f rfl (decide_eq_false (by omega)) ?_
    refine wc_exit ?_
    refine qe_then_exit ?_
    refine qe_then_exit ?_
    refine qe_block_eq ?_
    obtain rfl := oi h71
    exact qe_mid' ⟨a77, n78, c79, K73, rfl, hS76, hl74, hs80⟩ ⟨rfl, trivial⟩
  ·rintro _ w62 ⟨a64, n65, c66, K60, rfl, hS63, hl61, hs67⟩
   refine qr ?_
   refine vm rfl rfl ?_
   refine va rfl rfl ?_
   refine nq ?_
   refine wc_ret ?_
   obtain rfl := oi h59
   exact qe_ret (vs := [_]) Try.results28 ⟨rfl, trivial⟩ ⟨a64, n65, c66, K60, rfl, hS63, hs67⟩

set_option maxHeartbeats 2000000 in
theorem ok_laws_FnSegFew (F : Nat) {w : World} {K : KMap} {a1 : Option Addr} {n2 c3 : Nat} {a5 : Option Addr} {n6 c7 : Nat} {p0_code : List UInt8} {p1_more : List UInt8} {r : Bool} (hS : SH w K [] w K []) (hs4 : SliceAt tU8 K a1 n2 c3 p0_code) (hs8 : SliceAt tU8 K a5 n6 c7 p1_more) (hm : M.laws_FnSegFew F p0_code p1_more = some r) :
  Calls Try.prog 6 #[.slice a1 n2 c3, .slice a5 n6 c7] w fun e w' => ∃ (K' : KMap), e = .returned (.bool r) ∧ SH w K [] w' K' [] := by
 rw [M.laws_FnSegFew] at hm
 refine calls_in Try.func6 rfl Try.ntmps6 rfl ?_
 refine sr ?_
 refine wl_val wn rfl (rv_assign (v := .bool false) rfl) ?_
 refine ns ?_
 refine wc_seq ?_
 obtain ⟨o9, h10, h11⟩ := ob hm
 refine wc_cutg (fun E' w' => ∃ (K12 : KMap), E' = [(0, .slice a1 n2 c3), (1, .slice a5 n6 c7), (22, .bool o9)] ∧ SH w K [] w' K12 [] ∧ KLe K K12) ?_ ?_
 ·refine wc_region ?_
  refine vm rfl rfl ?_
  refine wl_val wn rfl (rv_len (t := tU8) Try.underlying22 rfl hs4) ?_
  refine wl_val wn rfl (rv_gtr rfl rfl) ?_
  refine vm rfl rfl ?_
  rcases bool_tf (decide ((1048576 : Int) < (p0_code.length : Int))) with hb16 | hb16
  ·have h17 := cond_t hb16 h10
   refine wl_un (ug rfl rfl hb16) rfl ?_
   refine wl_un (ug rfl rfl hb16) rfl ?_
   refine wl_un (ug rfl rfl hb16) rfl ?_
   refine wl_val wn rfl (rv_pick_t (v := .bool true) rfl hb16 rfl) ?_
   refine wl_nil ?_
   obtain rfl := oi h17
   exact qe_mid' ⟨K, rfl, hS, (KLe.refl _)⟩ ⟨rfl, rfl, rfl, trivial⟩
  ·have h17 := cond_f hb16 h10
   refine wl_val (wg rfl rfl hb16) rfl (rv_move rfl) ?_
   refine wl_val (wg rfl rfl hb16) rfl (rv_len (t := tU8) Try.underlying22 rfl hs8) ?_
   refine wl_val (wg rfl rfl hb16) rfl (rv_gtr rfl rfl) ?_
   refine wl_val wn rfl (rv_pick_f rfl hb16 rfl) ?_
   refine wl_nil ?_
   obtain rfl := oi h17
   exact qe_mid' ⟨K, rfl, hS, (KLe.refl _)⟩ ⟨rfl, rfl, rfl, trivial⟩
 ·rintro _ w14 ⟨K12, rfl, hS15, hl13⟩
  refine qe_seq ?_
  refine wc_cond rfl (fun hb18 => ?_) (fun hb18 => ?_)
  ·have h19 := cond_t hb18 h11
   refine sr ?_
   refine wl_val wn rfl (rv_assign (v := .bool true) rfl) ?_
   refine nq ?_
   refine rr ?_
   obtain rfl := oi h19
   exact qe_ret (vs := [_]) Try.results6 ⟨rfl, trivial⟩ ⟨K12, rfl, hS15⟩
  ·have h19 := cond_f hb18 h11
   refine wc_skip ?_
   refine qr ?_
   refine vm rfl rfl ?_
   obtain ⟨r20, hx21, h22⟩ := ob h19
   refine wl_call wn rfl (rt_call (vs := [.slice a1 n2 c3]) co20 rfl) ((ok_spec_DrawSegOf F) hS15.enter0 (SliceAt.mono hl13 hs4) hx21) ?_
   rintro e38 w24 ⟨a26, n27, c28, a30, n31, c32, a34, n35, c36, K23, rfl, hS25, hs29, hs33, hs37⟩
   refine ⟨_, rfl, ?_⟩
   have hS39 : SH _ _ _ _ _ [_, _, _] := SH.call0 hS15 hS25
   refine vm rfl rfl ?_
   refine wl_val wn rfl (rv_extract rfl rfl) ?_
   refine wl_val wn rfl (rv_extract rfl rfl) ?_
   refine wl_alloc wn rfl tf39 hS39 ?_
   intro g40 w41 hS42
   have hS43 : SH _ _ _ _ _ [obj g40 [.slice none 0 0, .slice none 0 0] 39, _, _, _] := hS42
   refine wl_store (cs' := [.slice a26 n27 c28, .slice a30 n31 c32]) (v := .agg #[.slice a26 n27 c28, .slice a30 n31 c32]) wn tf39 rfl rfl rfl (by simp [Value.cells, Value.oneCell']) hS43 rfl rfl ?_
   intro w44 hS45
   refine va rfl rfl ?_
   refine nr ?_
   refine wl_val wn rfl (rv_loadmS (ds := [.slice a26 n27 c28, .slice a30 n31 c32]) tf39 rfl (.head _) hS45 rfl rfl) ?_
   refine vm rfl rfl ?_
   obtain ⟨r46, hx47, h48⟩ := ob h22
   refine wl_call wn rfl (rt_call (vs := [.agg #[.slice a26 n27 c28, .slice a30 n31 c32], .slice a34 n35 c36]) co21 rfl) ((ok_impl_SegOf F) hS45.enter0 hs29 hs33 hs37 hx47) ?_
   rintro e60 w50 ⟨a52, n53, c54, a56, n57, c58, K49, rfl, hS51, hs55, hs59⟩
   refine ⟨_, rfl, ?_⟩
   have hS61 : SH _ _ _ _ _ [_, _, _, _, _] := SH.call0 hS45 hS51
   refine wl_alloc wn rfl tf42 hS61 ?_
   intro g62 w63 hS64
   have hS65 : SH _ _ _ _ _ [obj g62 [.slice none 0 0, .slice none 0 0] 42, _, _, _, _, _] := hS64
   refine wl_store (cs' := [.slice a52 n53 c54, .slice a56 n57 c58]) (v := .agg #[.slice a52 n53 c54, .slice a56 n57 c58]) wn tf42 rfl rfl rfl (by simp [Value.cells, Value.oneCell']) hS65 rfl rfl ?_
   intro w66 hS67
   refine ns ?_
   refine wc_seq ?_
   obtain ⟨o68, h69, h70⟩ := ob h48
   refine wc_cutg (fun E' w' => ∃ (K71 : KMap), E' = [(1, .slice a5 n6 c7), (5, .pointer (some ⟨g40, 0, none⟩)), (6, .slice a34 n35 c36), (7, .pointer (some ⟨g62, 0, none⟩)), (58, .bool o68)] ∧ SH w K [] w' K71 [obj g40 [.slice a26 n27 c28, .slice a30 n31 c32] 39, obj g62 [.slice a52 n53 c54, .slice a56 n57 c58] 42] ∧ KLe K49 K71) ?_ ?_
   ·refine wc_held (fun w' => Holds K49 w' ∧ HasObj g62 [.slice a52 n53 c54, .slice a56 n57 c58] w' ∧ HasObj g40 [.slice a26 n27 c28, .slice a30 n31 c32] w') (fun w' => True) 28 [] mixed ?_
    have hS76 := SH.drew hS67
    refine wg_val (i := 0) (listed' := #[true, false, false, false, false, false, false, false, false, false, false, false, false, false, false, false, false, false, false, false, false, false, false, false, false, false, false, false]) (HasObj g62 [.slice a52 n53 c54, .slice a56 n57 c58]) rfl (by kernel_rfl) (pk_then (pk_then (pk_then pk_body))) (by kernel_rfl) rfl (by kernel_rfl) (by kernel_rfl) rfl (.inl fun _ h => h.2.1) ⟨⟨hS76.hasK (KLe.refl _), hS76.hasObj (.head _), hS76.hasObj (.tail _ (.tail _ (.head _)))⟩, (fun _ => trivial), by decide⟩ wn rfl (fun _ h => rh_loadmS (ds := [.slice a52 n53 c54, .slice a56 n57 c58]) tf42 rfl rfl rfl h) ?_
    refine wg_val (i := 1) (listed' := #[true, true, false, false, false, false, false, false, false, false, false, false, false, false, false, false, false, false, false, false, false, false, false, false, false, false, false, false]) (HasObj g40 [.slice a26 n27 c28, .slice a30 n31 c32]) rfl (by kernel_rfl) (pk_then (pk_then (pk_then pk_body))) (by kernel_rfl) rfl (by kernel_rfl) (by kernel_rfl) rfl (.inl fun _ h => h.2.2) ⟨⟨hS76.hasK (KLe.refl _), hS76.hasObj (.head _), hS76.hasObj (.tail _ (.tail _ (.head _)))⟩, (fun _ => trivial), by decide⟩ wn rfl (fun _ h => rh_loadmS (ds := [.slice a26 n27 c28, .slice a30 n31 c32]) tf39 rfl rfl rfl h) ?_
    refine wg_val (i := 2) (listed' := #[true, true, true, false, false, false, false, false, false, false, false, false, false, false, false, false, false, false, false, false, false, false, false, false, false, false, false, false]) (fun _ => True) rfl (by kernel_rfl) (pk_then (pk_then (pk_then pk_body))) (by kernel_rfl) rfl (by kernel_rfl) (by kernel_rfl) rfl (.inl fun _ _ => trivial) ⟨⟨hS76.hasK (KLe.refl _), hS76.hasObj (.head _), hS76.hasObj (.tail _ (.tail _ (.head _)))⟩, (fun _ => trivial), by decide⟩ wn rfl (fun _ _ => (rv_move rfl)) ?_
    refine wg_one (i := 3) (by kernel_rfl) rfl ?_
    obtain ⟨r77, hx78, h79⟩ := ob h69
    refine wl_call wn rfl (rt_call (vs := [.agg #[.slice a26 n27 c28, .slice a30 n31 c32], .slice a34 n35 c36]) co23 rfl) ((ok_spec_SegOf F) hS76.enter0 (SliceAt.mono hS51.le hs29) (SliceAt.mono hS51.le hs33) (SliceAt.mono hS51.le hs37) hx78) ?_
    rintro e91 w81 ⟨a83, n84, c85, a87, n88, c89, K80, rfl, hS82, hs86, hs90⟩
    refine ⟨_, rfl, ?_⟩
    have hS92 : SH _ _ _ _ _ [_, _, _, _, _, _, _, _] := SH.call0 hS76 hS82
    refine wl_nil (qe_held (listed' := #[true, true, true, true, false, false, false, false, false, false, false, false, false, false, false, false, false, false, false, false, false, false, false, false, false, false, false, false]) rfl ⟨⟨hS92.hasK hS82.le, hS92.hasObj (.tail _ (.tail _ (.head _))), hS92.hasObj (.tail _ (.tail _ (.tail _ (.tail _ (.head _)))))⟩, (fun _ => trivial), by decide⟩ ?_)
    refine wg_one (i := 4) (by kernel_rfl) rfl ?_
    obtain ⟨r93, hx94, h95⟩ := ob h79
    refine wl_call wn rfl (rt_call (vs := [.agg #[.slice a52 n53 c54, .slice a56 n57 c58], .agg #[.slice a83 n84 c85, .slice a87 n88 c89]]) co22 rfl) ((ok_laws_foSeg F) hS92.enter0 (SliceAt.mono hS82.le hs55) (SliceAt.mono hS82.le hs59) hs86 hs90 hx94) ?_
    rintro e99 w97 ⟨K96, rfl, hS98⟩
    refine ⟨_, rfl, ?_⟩
    have hS100 : SH _ _ _ _ _ [_, _, _, _, _, _, _, _] := SH.call0 hS92 hS98
    refine wl_nil (qe_held (listed' := #[true, true, true, true, true, false, false, false, false, false, false, false, false, false, false, false, false, false, false, false, false, false, false, false, false, false, false, false]) rfl ⟨⟨hS100.hasK (hS82.le.trans hS98.le), hS100.hasObj (.tail _ (.tail _ (.head _))), hS100.hasObj (.tail _ (.tail _ (.tail _ (.tail _ (.head _)))))⟩, (fun _ => trivial), by decide⟩ ?_)
    refine wg_val (i := 5) (listed' := #[true, true, true, true, true, true, false, false, false, false, false, false, false, false, false, false, false, false, false, false, false, false, false, false, false, false, false, false]) (fun _ => True) rfl (by kernel_rfl) (pk_then (pk_then (pk_then pk_body))) (by kernel_rfl) rfl (by kernel_rfl) (by kernel_rfl) rfl (.inl fun _ _ => trivial) ⟨⟨hS100.hasK (hS82.le.trans hS98.le), hS100.hasObj (.tail _ (.tail _ (.head _))), hS100.hasObj (.tail _ (.tail _ (.tail _ (.tail _ (.head _)))))⟩, (fun _ => trivial), by decide⟩ wn rfl (fun _ _ => (rv_not rfl)) ?_
    refine wg_val (i := 6) (listed' := #[true, true, true, true, true, true, true, false, false, false, false, false, false, false, false, false, false, false, false, false, false, false, false, false, false, false, false, false]) (fun _ => True) rfl (by kernel_rfl) (pk_then (pk_then (pk_then pk_body))) (by kernel_rfl) rfl (by kernel_rfl) (by kernel_rfl) rfl (.inl fun _ _ => trivial) ⟨⟨hS100.hasK (hS82.le.trans hS98.le), hS100.hasObj (.tail _ (.tail _ (.head _))), hS100.hasObj (.tail _ (.tail _ (.tail _ (.tail _ (.head _)))))⟩, (fun _ => trivial), by decide⟩ wn rfl (fun _ _ => (rv_move rfl)) ?_
    rcases bool_tf ((!r93)) with hb101 | hb101
    ·have h102 := cond_t hb101 h95
     refine wg_un (i := 7) (listed' := #[true, true, true, true, true, true, true, true, false, false, false, false, false, false, false, false, false, false, false, false, false, false, false, false, false, false, false, false]) rfl (by kernel_rfl) (pk_then (pk_then (pk_then pk_body))) (by kernel_rfl) rfl (by kernel_rfl) (by kernel_rfl) rfl ⟨⟨hS100.hasK (hS82.le.trans hS98.le), hS100.hasObj (.tail _ (.tail _ (.head _))), hS100.hasObj (.tail _ (.tail _ (.tail _ (.tail _ (.head _)))))⟩, (fun _ => trivial), by decide⟩ (ug rfl rfl hb101) rfl ?_
     refine wg_un (i := 8) (listed' := #[true, true, true, true, true, true, true, true, true, false, false, false, false, false, false, false, false, false, false, false, false, false, false, false, false, false, false, false]) rfl (by kernel_rfl) (pk_then (pk_then (pk_then pk_body))) (by kernel_rfl) rfl (by kernel_rfl) (by kernel_rfl) rfl ⟨⟨hS100.hasK (hS82.le.trans hS98.le), hS100.hasObj (.tail _ (.tail _ (.head _))), hS100.hasObj (.tail _ (.tail _ (.tail _ (.tail _ (.head _)))))⟩, (fun _ => trivial), by decide⟩ (ug rfl rfl hb101) rfl ?_
     refine wg_one (i := 9) (by kernel_rfl) rfl ?_
     refine wl_un (ug rfl rfl hb101) rfl ?_
     refine wl_nil (qe_held (listed' := #[true, true, true, true, true, true, true, true, true, true, false, false, false, false, false, false, false, false, false, false, false, false, false, false, false, false, false, false]) rfl ⟨⟨hS100.hasK (hS82.le.trans hS98.le), hS100.hasObj (.tail _ (.tail _ (.head _))), hS100.hasObj (.tail _ (.tail _ (.tail _ (.tail _ (.head _)))))⟩, (fun _ => trivial), by decide⟩ ?_)
     refine wg_un (i := 10) (listed' := #[true, true, true, true, true, true, true, true, true, true, true, false, false, false, false, false, false, false, false, false, false, false, false, false, false, false, false, false]) rfl (by kernel_rfl) (pk_then (pk_then (pk_then pk_body))) (by kernel_rfl) rfl (by kernel_rfl) (by kernel_rfl) rfl ⟨⟨hS100.hasK (hS82.le.trans hS98.le), hS100.hasObj (.tail _ (.tail _ (.head _))), hS100.hasObj (.tail _ (.tail _ (.tail _ (.tail _ (.head _)))))⟩, (fun _ => trivial), by decide⟩ (ug rfl rfl hb101) rfl ?_
     refine wg_val (i := 11) (listed' := #[true, true, true, true, true, true, true, true, true, true, true, true, false, false, false, false, false, false, false, false, false, false, false, false, false, false, false, false]) (fun _ => True) rfl (by kernel_rfl) (pk_then (pk_then (pk_then pk_body))) (by kernel_rfl) rfl (by kernel_rfl) (by kernel_rfl) rfl (.inl fun _ _ => trivial) ⟨⟨hS100.hasK (hS82.le.trans hS98.le), hS100.hasObj (.tail _ (.tail _ (.head _))), hS100.hasObj (.tail _ (.tail _ (.tail _ (.tail _ (.head _)))))⟩, (fun _ => trivial), by decide⟩ wn rfl (fun _ _ => (rv_pick_t (v := .bool true) rfl hb101 rfl)) ?_
     refine wg_val (i := 12) (listed' := #[true, true, true, true, true, true, true, true, true, true, true, true, true, false, false, false, false, false, false, false, false, false, false, false, false, false, false, false]) (fun _ => True) rfl (by kernel_rfl) (pk_then (pk_then (pk_then pk_body))) (by kernel_rfl) rfl (by kernel_rfl) (by kernel_rfl) rfl (.inl fun _ _ => trivial) ⟨⟨hS100.hasK (hS82.le.trans hS98.le), hS100.hasObj (.tail _ (.tail _ (.head _))), hS100.hasObj (.tail _ (.tail _ (.tail _ (.tail _ (.head _)))))⟩, (fun _ => trivial), by decide⟩ wn rfl (fun _ _ => (rv_move rfl)) ?_
     refine wg_un (i := 13) (listed' := #[true, true, true, true, true, true, true, true, true, true, true, true, true, true, false, false, false, false, false, false, false, false, false, false, false, false, false, false]) rfl (by kernel_rfl) (pk_then (pk_then (pk_then pk_body))) (by kernel_rfl) rfl (by kernel_rfl) (by kernel_rfl) rfl ⟨⟨hS100.hasK (hS82.le.trans hS98.le), hS100.hasObj (.tail _ (.tail _ (.head _))), hS100.hasObj (.tail _ (.tail _ (.tail _ (.tail _ (.head _)))))⟩, (fun _ => trivial), by decide⟩ (ug rfl rfl rfl) rfl ?_
     refine wg_un (i := 14) (listed' := #[true, true, true, true, true, true, true, true, true, true, true, true, true, true, true, false, false, false, false, false, false, false, false, false, false, false, false, false]) rfl (by kernel_rfl) (pk_then (pk_then (pk_then pk_body))) (by kernel_rfl) rfl (by kernel_rfl) (by kernel_rfl) rfl ⟨⟨hS100.hasK (hS82.le.trans hS98.le), hS100.hasObj (.tail _ (.tail _ (.head _))), hS100.hasObj (.tail _ (.tail _ (.tail _ (.tail _ (.head _)))))⟩, (fun _ => trivial), by decide⟩ (ug rfl rfl rfl) rfl ?_
     refine wg_un (i := 15) (listed' := #[true, true, true, true, true, true, true, true, true, true, true, true, true, true, true, true, false, false, false, false, false, false, false, false, false, false, false, false]) rfl (by kernel_rfl) (pk_then (pk_then (pk_then pk_body))) (by kernel_rfl) rfl (by kernel_rfl) (by kernel_rfl) rfl ⟨⟨hS100.hasK (hS82.le.trans hS98.le), hS100.hasObj (.tail _ (.tail _ (.head _))), hS100.hasObj (.tail _ (.tail _ (.tail _ (.tail _ (.head _)))))⟩, (fun _ => trivial), by decide⟩ (ug rfl rfl rfl) rfl ?_
     refine wg_val (i := 16) (listed' := #[true, true, true, true, true, true, true, true, true, true, true, true, true, true, true, true, true, false, false, false, false, false, false, false, false, false, false, false]) (fun _ => True) rfl (by kernel_rfl) (pk_then (pk_then (pk_then pk_body))) (by kernel_rfl) rfl (by kernel_rfl) (by kernel_rfl) rfl (.inl fun _ _ => trivial) ⟨⟨hS100.hasK (hS82.le.trans hS98.le), hS100.hasObj (.tail _ (.tail _ (.head _))), hS100.hasObj (.tail _ (.tail _ (.tail _ (.tail _ (.head _)))))⟩, (fun _ => trivial), by decide⟩ wn rfl (fun _ _ => (rv_pick_t (v := .bool true) rfl rfl rfl)) ?_
     refine wg_val (i := 17) (listed' := #[true, true, true, true, true, true, true, true, true, true, true, true, true, true, true, true, true, true, false, false, false, false, false, false, false, false, false, false]) (fun _ => True) rfl (by kernel_rfl) (pk_then (pk_then (pk_then pk_body))) (by kernel_rfl) rfl (by kernel_rfl) (by kernel_rfl) rfl (.inl fun _ _ => trivial) ⟨⟨hS100.hasK (hS82.le.trans hS98.le), hS100.hasObj (.tail _ (.tail _ (.head _))), hS100.hasObj (.tail _ (.tail _ (.tail _ (.tail _ (.head _)))))⟩, (fun _ => trivial), by decide⟩ wn rfl (fun _ _ => (rv_move rfl)) ?_
     refine wg_un (i := 18) (listed' := #[true, true, true, true, true, true, true, true, true, true, true, true, true, true, true, true, true, true, true, false, false, false, false, false, false, false, false, false]) rfl (by kernel_rfl) (pk_then (pk_then (pk_then pk_body))) (by kernel_rfl) rfl (by kernel_rfl) (by kernel_rfl) rfl ⟨⟨hS100.hasK (hS82.le.trans hS98.le), hS100.hasObj (.tail _ (.tail _ (.head _))), hS100.hasObj (.tail _ (.tail _ (.tail _ (.tail _ (.head _)))))⟩, (fun _ => trivial), by decide⟩ (ug rfl rfl rfl) rfl ?_
     refine wg_one (i := 19) (by kernel_rfl) rfl ?_
     refine wl_un (ug rfl rfl rfl) rfl ?_
     refine wl_nil (qe_held (listed' := #[true, true, true, true, true, true, true, true, true, true, true, true, true, true, true, true, true, true, true, true, false, false, false, false, false, false, false, false]) rfl ⟨⟨hS100.hasK (hS82.le.trans hS98.le), hS100.hasObj (.tail _ (.tail _ (.head _))), hS100.hasObj (.tail _ (.tail _ (.tail _ (.tail _ (.head _)))))⟩, (fun _ => trivial), by decide⟩ ?_)
     refine wg_un (i := 20) (listed' := #[true, true, true, true, true, true, true, true, true, true, true, true, true, true, true, true, true, true, true, true, true, false, false, false, false, false, false, false]) rfl (by kernel_rfl) (pk_then (pk_then (pk_then pk_body))) (by kernel_rfl) rfl (by kernel_rfl) (by kernel_rfl) rfl ⟨⟨hS100.hasK (hS82.le.trans hS98.le), hS100.hasObj (.tail _ (.tail _ (.head _))), hS100.hasObj (.tail _ (.tail _ (.tail _ (.tail _ (.head _)))))⟩, (fun _ => trivial), by decide⟩ (ug rfl rfl rfl) rfl ?_
     refine wg_val (i := 21) (listed' := #[true, true, true, true, true, true, true, true, true, true, true, true, true, true, true, true, true, true, true, true, true, true, false, false, false, false, false, false]) (fun _ => True) rfl (by kernel_rfl) (pk_then (pk_then (pk_then pk_body))) (by kernel_rfl) rfl (by kernel_rfl) (by kernel_rfl) rfl (.inl fun _ _ => trivial) ⟨⟨hS100.hasK (hS82.le.trans hS98.le), hS100.hasObj (.tail _ (.tail _ (.head _))), hS100.hasObj (.tail _ (.tail _ (.tail _ (.tail _ (.head _)))))⟩, (fun _ => trivial), by decide⟩ wn rfl (fun _ _ => (rv_pick_t (v := .bool true) rfl rfl rfl)) ?_
     refine wg_val (i := 22) (listed' := #[true, true, true, true, true, true, true, true, true, true, true, true, true, true, true, true, true, true, true, true, true, true, true, false, false, false, false, false]) (fun _ => True) rfl (by kernel_rfl) (pk_then (pk_then (pk_then pk_body))) (by kernel_rfl) rfl (by kernel_rfl) (by kernel_rfl) rfl (.inl fun _ _ => trivial) ⟨⟨hS100.hasK (hS82.le.trans hS98.le), hS100.hasObj (.tail _ (.tail _ (.head _))), hS100.hasObj (.tail _ (.tail _ (.tail _ (.tail _ (.head _)))))⟩, (fun _ => trivial), by decide⟩ wn rfl (fun _ _ => (rv_move rfl)) ?_
     refine wg_un (i := 23) (listed' := #[true, true, true, true, true, true, true, true, true, true, true, true, true, true, true, true, true, true, true, true, true, true, true, true, false, false, false, false]) rfl (by kernel_rfl) (pk_then (pk_then (pk_then pk_body))) (by kernel_rfl) rfl (by kernel_rfl) (by kernel_rfl) rfl ⟨⟨hS100.hasK (hS82.le.trans hS98.le), hS100.hasObj (.tail _ (.tail _ (.head _))), hS100.hasObj (.tail _ (.tail _ (.tail _ (.tail _ (.head _)))))⟩, (fun _ => trivial), by decide⟩ (ug rfl rfl rfl) rfl ?_
     refine wg_un (i := 24) (listed' := #[true, true, true, true, true, true, true, true, true, true, true, true, true, true, true, true, true, true, true, true, true, true, true, true, true, false, false, false]) rfl (by kernel_rfl) (pk_then (pk_then (pk_then pk_body))) (by kernel_rfl) rfl (by kernel_rfl) (by kernel_rfl) rfl ⟨⟨hS100.hasK (hS82.le.trans hS98.le), hS100.hasObj (.tail _ (.tail _ (.head _))), hS100.hasObj (.tail _ (.tail _ (.tail _ (.tail _ (.head _)))))⟩, (fun _ => trivial), by decide⟩ (ug rfl rfl rfl) rfl ?_
     refine wg_un (i := 25) (listed' := #[true, true, true, true, true, true, true, true, true, true, true, true, true, true, true, true, true, true, true, true, true, true, true, true, true, true, false, false]) rfl (by kernel_rfl) (pk_then (pk_then (pk_then pk_body))) (by kernel_rfl) rfl (by kernel_rfl) (by kernel_rfl) rfl ⟨⟨hS100.hasK (hS82.le.trans hS98.le), hS100.hasObj (.tail _ (.tail _ (.head _))), hS100.hasObj (.tail _ (.tail _ (.tail _ (.tail _ (.head _)))))⟩, (fun _ => trivial), by decide⟩ (ug rfl rfl rfl) rfl ?_
     refine wg_un (i := 26) (listed' := #[true, true, true, true, true, true, true, true, true, true, true, true, true, true, true, true, true, true, true, true, true, true, true, true, true, true, true, false]) rfl (by kernel_rfl) (pk_then (pk_then (pk_then pk_body))) (by kernel_rfl) rfl (by kernel_rfl) (by kernel_rfl) rfl ⟨⟨hS100.hasK (hS82.le.trans hS98.le), hS100.hasObj (.tail _ (.tail _ (.head _))), hS100.hasObj (.tail _ (.tail _ (.tail _ (.tail _ (.head _)))))⟩, (fun _ => trivial), by decide⟩ (ug rfl rfl rfl) rfl ?_
     refine wg_val (i := 27) (listed' := #[true, true, true, true, true, true, true, true, true, true, true, true, true, true, true, true, true, true, true, true, true, true, true, true, true, true, true, true]) (fun _ => True) rfl (by kernel_rfl) (pk_then (pk_then (pk_then pk_body))) (by kernel_rfl) rfl (by kernel_rfl) (by kernel_rfl) rfl (.inl fun _ _ => trivial) ⟨⟨hS100.hasK (hS82.le.trans hS98.le), hS100.hasObj (.tail _ (.tail _ (.head _))), hS100.hasObj (.tail _ (.tail _ (.tail _ (.tail _ (.head _)))))⟩, (fun _ => trivial), by decide⟩ wn rfl (fun _ _ => (rv_pick_t (v := .bool true) rfl rfl rfl)) ?_
     refine wg_done (by kernel_rfl) ?_
     obtain rfl := oi h102
     have hS103 : SH _ _ _ _ _ [_, _, _, _, _, _, _, _] := SH.front (p := [_, _]) hS100
     have hS104 : SH _ _ _ _ _ [_, _, _, _, _, _, _, _] := SH.front (p := [_, _, _, _]) hS103
     have hS105 : SH _ _ _ _ _ [_, _] := SH.sublist hS104 (.cons_cons _ (.cons_cons _ (.cons _ (.cons _ (.cons _ (.cons _ (.cons _ (.cons _ .slnil))))))))
     exact qe_mid' ⟨K96, rfl, hS105, (hS82.le.trans hS98.le)⟩ ⟨rfl, rfl, rfl, rfl, rfl, trivial⟩
    ·have h102 := cond_f hb101 h95
     refine wg_val (i := 7) (listed' := #[true, true, true, true, true, true, true, true, false, false, false, false, false, false, false, false, false, false, false, false, false, false, false, false, false, false, false, false]) (HasObj g40 [.slice a26 n27 c28, .slice a30 n31 c32]) rfl (by kernel_rfl) (pk_then (pk_then (pk_then pk_body))) (by kernel_rfl) rfl (by kernel_rfl) (by kernel_rfl) rfl (.inl fun _ h => h.2.2) ⟨⟨hS100.hasK (hS82.le.trans hS98.le), hS100.hasObj (.tail _ (.tail _ (.head _))), hS100.hasObj (.tail _ (.tail _ (.tail _ (.tail _ (.head _)))))⟩, (fun _ => trivial), by decide⟩ (wg rfl rfl hb101) rfl (fun _ h => rh_loadmS (ds := [.slice a26 n27 c28, .slice a30 n31 c32]) tf39 rfl rfl rfl h) ?_
     refine wg_val (i := 8) (listed' := #[true, true, true, true, true, true, true, true, true, false, false, false, false, false, false, false, false, false, false, false, false, false, false, false, false, false, false, false]) (HasObj g62 [.slice a52 n53 c54, .slice a56 n57 c58]) rfl (by kernel_rfl) (pk_then (pk_then (pk_then pk_body))) (by kernel_rfl) rfl (by kernel_rfl) (by kernel_rfl) rfl (.inl fun _ h => h.2.1) ⟨⟨hS100.hasK (hS82.le.trans hS98.le), hS100.hasObj (.tail _ (.tail _ (.head _))), hS100.hasObj (.tail _ (.tail _ (.tail _ (.tail _ (.head _)))))⟩, (fun _ => trivial), by decide⟩ (wg rfl rfl hb101) rfl (fun _ h => rh_loadmS (ds := [.slice a52 n53 c54, .slice a56 n57 c58]) tf42 rfl rfl rfl h) ?_
     refine wg_one (i := 9) (by kernel_rfl) rfl ?_
     obtain ⟨r106, hx107, h108⟩ := ob h102
     refine wl_call (wg rfl rfl hb101) rfl (rt_call (vs := [.agg #[.slice a26 n27 c28, .slice a30 n31 c32], .agg #[.slice a52 n53 c54, .slice a56 n57 c58]]) co25 rfl) ((ok_impl_SegOk F) hS100.enter0 (SliceAt.mono ((hS51.le.trans hS82.le).trans hS98.le) hs29) (SliceAt.mono ((hS51.le.trans hS82.le).trans hS98.le) hs33) (SliceAt.mono (hS82.le.trans hS98.le) hs55) (SliceAt.mono (hS82.le.trans hS98.le) hs59) hx107) ?_
     rintro e112 w110 ⟨K109, rfl, hS111⟩
     refine ⟨_, rfl, ?_⟩
     have hS113 : SH _ _ _ _ _ [_, _, _, _, _, _, _, _] := SH.call0 hS100 hS111
     refine wl_nil (qe_held (listed' := #[true, true, true, true, true, true, true, true, true, true, false, false, false, false, false, false, false, false, false, false, false, false, false, false, false, false, false, false]) rfl ⟨⟨hS113.hasK ((hS82.le.trans hS98.le).trans hS111.le), hS113.hasObj (.tail _ (.tail _ (.head _))), hS113.hasObj (.tail _ (.tail _ (.tail _ (.tail _ (.head _)))))⟩, (fun _ => trivial), by decide⟩ ?_)
     refine wg_val (i := 10) (listed' := #[true, true, true, true, true, true, true, true, true, true, true, false, false, false, false, false, false, false, false, false, false, false, false, false, false, false, false, false]) (fun _ => True) rfl (by kernel_rfl) (pk_then (pk_then (pk_then pk_body))) (by kernel_rfl) rfl (by kernel_rfl) (by kernel_rfl) rfl (.inl fun _ _ => trivial) ⟨⟨hS113.hasK ((hS82.le.trans hS98.le).trans hS111.le), hS113.hasObj (.tail _ (.tail _ (.head _))), hS113.hasObj (.tail _ (.tail _ (.tail _ (.tail _ (.head _)))))⟩, (fun _ => trivial), by decide⟩ (wg rfl rfl hb101) rfl (fun _ _ => (rv_not rfl)) ?_
     refine wg_val (i := 11) (listed' := #[true, true, true, true, true, true, true, true, true, true, true, true, false, false, false, false, false, false, false, false, false, false, false, false, false, false, false, false]) (fun _ => True) rfl (by kernel_rfl) (pk_then (pk_then (pk_then pk_body))) (by kernel_rfl) rfl (by kernel_rfl) (by kernel_rfl) rfl (.inl fun _ _ => trivial) ⟨⟨hS113.hasK ((hS82.le.trans hS98.le).trans hS111.le), hS113.hasObj (.tail _ (.tail _ (.head _))), hS113.hasObj (.tail _ (.tail _ (.tail _ (.tail _ (.head _)))))⟩, (fun _ => trivial), by decide⟩ wn rfl (fun _ _ => (rv_pick_f rfl hb101 rfl)) ?_
     refine wg_val (i := 12) (listed' := #[true, true, true, true, true, true, true, true, true, true, true, true, true, false, false, false, false, false, false, false, false, false, false, false, false, false, false, false]) (fun _ => True) rfl (by kernel_rfl) (pk_then (pk_then (pk_then pk_body))) (by kernel_rfl) rfl (by kernel_rfl) (by kernel_rfl) rfl (.inl fun _ _ => trivial) ⟨⟨hS113.hasK ((hS82.le.trans hS98.le).trans hS111.le), hS113.hasObj (.tail _ (.tail _ (.head _))), hS113.hasObj (.tail _ (.tail _ (.tail _ (.tail _ (.head _)))))⟩, (fun _ => trivial), by decide⟩ wn rfl (fun _ _ => (rv_move rfl)) ?_
     rcases bool_tf ((!r106)) with hb114 | hb114
     ·have h115 := cond_t hb114 h108
      refine wg_un (i := 13) (listed' := #[true, true, true, true, true, true, true, true, true, true, true, true, true, true, false, false, false, false, false, false, false, false, false, false, false, false, false, false]) rfl (by kernel_rfl) (pk_then (pk_then (pk_then pk_body))) (by kernel_rfl) rfl (by kernel_rfl) (by kernel_rfl) rfl ⟨⟨hS113.hasK ((hS82.le.trans hS98.le).trans hS111.le), hS113.hasObj (.tail _ (.tail _ (.head _))), hS113.hasObj (.tail _ (.tail _ (.tail _ (.tail _ (.head _)))))⟩, (fun _ => trivial), by decide⟩ (ug rfl rfl hb114) rfl ?_
      refine wg_un (i := 14) (listed' := #[true, true, true, true, true, true, true, true, true, true, true, true, true, true, true, false, false, false, false, false, false, false, false, false, false, false, false, false]) rfl (by kernel_rfl) (pk_then (pk_then (pk_then pk_body))) (by kernel_rfl) rfl (by kernel_rfl) (by kernel_rfl) rfl ⟨⟨hS113.hasK ((hS82.le.trans hS98.le).trans hS111.le), hS113.hasObj (.tail _ (.tail _ (.head _))), hS113.hasObj (.tail _ (.tail _ (.tail _ (.tail _ (.head _)))))⟩, (fun _ => trivial), by decide⟩ (ug rfl rfl hb114) rfl ?_
      refine wg_un (i := 15) (listed' := #[true, true, true, true, true, true, true, true, true, true, true, true, true, true, true, true, false, false, false, false, false, false, false, false, false, false, false, false]) rfl (by kernel_rfl) (pk_then (pk_then (pk_then pk_body))) (by kernel_rfl) rfl (by kernel_rfl) (by kernel_rfl) rfl ⟨⟨hS113.hasK ((hS82.le.trans hS98.le).trans hS111.le), hS113.hasObj (.tail _ (.tail _ (.head _))), hS113.hasObj (.tail _ (.tail _ (.tail _ (.tail _ (.head _)))))⟩, (fun _ => trivial), by decide⟩ (ug rfl rfl hb114) rfl ?_
      refine wg_val (i := 16) (listed' := #[true, true, true, true, true, true, true, true, true, true, true, true, true, true, true, true, true, false, false, false, false, false, false, false, false, false, false, false]) (fun _ => True) rfl (by kernel_rfl) (pk_then (pk_then (pk_then pk_body))) (by kernel_rfl) rfl (by kernel_rfl) (by kernel_rfl) rfl (.inl fun _ _ => trivial) ⟨⟨hS113.hasK ((hS82.le.trans hS98.le).trans hS111.le), hS113.hasObj (.tail _ (.tail _ (.head _))), hS113.hasObj (.tail _ (.tail _ (.tail _ (.tail _ (.head _)))))⟩, (fun _ => trivial), by decide⟩ wn rfl (fun _ _ => (rv_pick_t (v := .bool true) rfl hb114 rfl)) ?_
      refine wg_val (i := 17) (listed' := #[true, true, true, true, true, true, true, true, true, true, true, true, true, true, true, true, true, true, false, false, false, false, false, false, false, false, false, false]) (fun _ => True) rfl (by kernel_rfl) (pk_then (pk_then (pk_then pk_body))) (by kernel_rfl) rfl (by kernel_rfl) (by kernel_rfl) rfl (.inl fun _ _ => trivial) ⟨⟨hS113.hasK ((hS82.le.trans hS98.le).trans hS111.le), hS113.hasObj (.tail _ (.tail _ (.head _))), hS113.hasObj (.tail _ (.tail _ (.tail _ (.tail _ (.head _)))))⟩, (fun _ => trivial), by decide⟩ wn rfl (fun _ _ => (rv_move rfl)) ?_
      refine wg_un (i := 18) (listed' := #[true, true, true, true, true, true, true, true, true, true, true, true, true, true, true, true, true, true, true, false, false, false, false, false, false, false, false, false]) rfl (by kernel_rfl) (pk_then (pk_then (pk_then pk_body))) (by kernel_rfl) rfl (by kernel_rfl) (by kernel_rfl) rfl ⟨⟨hS113.hasK ((hS82.le.trans hS98.le).trans hS111.le), hS113.hasObj (.tail _ (.tail _ (.head _))), hS113.hasObj (.tail _ (.tail _ (.tail _ (.tail _ (.head _)))))⟩, (fun _ => trivial), by decide⟩ (ug rfl rfl rfl) rfl ?_
      refine wg_one (i := 19) (by kernel_rfl) rfl ?_
      refine wl_un (ug rfl rfl rfl) rfl ?_
      refine wl_nil (qe_held (listed' := #[true, true, true, true, true, true, true, true, true, true, true, true, true, true, true, true, true, true, true, true, false, false, false, false, false, false, false, false]) rfl ⟨⟨hS113.hasK ((hS82.le.trans hS98.le).trans hS111.le), hS113.hasObj (.tail _ (.tail _ (.head _))), hS113.hasObj (.tail _ (.tail _ (.tail _ (.tail _ (.head _)))))⟩, (fun _ => trivial), by decide⟩ ?_)
      refine wg_un (i := 20) (listed' := #[true, true, true, true, true, true, true, true, true, true, true, true, true, true, true, true, true, true, true, true, true, false, false, false, false, false, false, false]) rfl (by kernel_rfl) (pk_then (pk_then (pk_then pk_body))) (by kernel_rfl) rfl (by kernel_rfl) (by kernel_rfl) rfl ⟨⟨hS113.hasK ((hS82.le.trans hS98.le).trans hS111.le), hS113.hasObj (.tail _ (.tail _ (.head _))), hS113.hasObj (.tail _ (.tail _ (.tail _ (.tail _ (.head _)))))⟩, (fun _ => trivial), by decide⟩ (ug rfl rfl rfl) rfl ?_
      refine wg_val (i := 21) (listed' := #[true, true, true, true, true, true, true, true, true, true, true, true, true, true, true, true, true, true, true, true, true, true, false, false, false, false, false, false]) (fun _ => True) rfl (by kernel_rfl) (pk_then (pk_then (pk_then pk_body))) (by kernel_rfl) rfl (by kernel_rfl) (by kernel_rfl) rfl (.inl fun _ _ => trivial) ⟨⟨hS113.hasK ((hS82.le.trans hS98.le).trans hS111.le), hS113.hasObj (.tail _ (.tail _ (.head _))), hS113.hasObj (.tail _ (.tail _ (.tail _ (.tail _ (.head _)))))⟩, (fun _ => trivial), by decide⟩ wn rfl (fun _ _ => (rv_pick_t (v := .bool true) rfl rfl rfl)) ?_
      refine wg_val (i := 22) (listed' := #[true, true, true, true, true, true, true, true, true, true, true, true, true, true, true, true, true, true, true, true, true, true, true, false, false, false, false, false]) (fun _ => True) rfl (by kernel_rfl) (pk_then (pk_then (pk_then pk_body))) (by kernel_rfl) rfl (by kernel_rfl) (by kernel_rfl) rfl (.inl fun _ _ => trivial) ⟨⟨hS113.hasK ((hS82.le.trans hS98.le).trans hS111.le), hS113.hasObj (.tail _ (.tail _ (.head _))), hS113.hasObj (.tail _ (.tail _ (.tail _ (.tail _ (.head _)))))⟩, (fun _ => trivial), by decide⟩ wn rfl (fun _ _ => (rv_move rfl)) ?_
      refine wg_un (i := 23) (listed' := #[true, true, true, true, true, true, true, true, true, true, true, true, true, true, true, true, true, true, true, true, true, true, true, true, false, false, false, false]) rfl (by kernel_rfl) (pk_then (pk_then (pk_then pk_body))) (by kernel_rfl) rfl (by kernel_rfl) (by kernel_rfl) rfl ⟨⟨hS113.hasK ((hS82.le.trans hS98.le).trans hS111.le), hS113.hasObj (.tail _ (.tail _ (.head _))), hS113.hasObj (.tail _ (.tail _ (.tail _ (.tail _ (.head _)))))⟩, (fun _ => trivial), by decide⟩ (ug rfl rfl rfl) rfl ?_
      refine wg_un (i := 24) (listed' := #[true, true, true, true, true, true, true, true, true, true, true, true, true, true, true, true, true, true, true, true, true, true, true, true, true, false, false, false]) rfl (by kernel_rfl) (pk_then (pk_then (pk_then pk_body))) (by kernel_rfl) rfl (by kernel_rfl) (by kernel_rfl) rfl ⟨⟨hS113.hasK ((hS82.le.trans hS98.le).trans hS111.le), hS113.hasObj (.tail _ (.tail _ (.head _))), hS113.hasObj (.tail _ (.tail _ (.tail _ (.tail _ (.head _)))))⟩, (fun _ => trivial), by decide⟩ (ug rfl rfl rfl) rfl ?_
      refine wg_un (i := 25) (listed' := #[true, true, true, true, true, true, true, true, true, true, true, true, true, true, true, true, true, true, true, true, true, true, true, true, true, true, false, false]) rfl (by kernel_rfl) (pk_then (pk_then (pk_then pk_body))) (by kernel_rfl) rfl (by kernel_rfl) (by kernel_rfl) rfl ⟨⟨hS113.hasK ((hS82.le.trans hS98.le).trans hS111.le), hS113.hasObj (.tail _ (.tail _ (.head _))), hS113.hasObj (.tail _ (.tail _ (.tail _ (.tail _ (.head _)))))⟩, (fun _ => trivial), by decide⟩ (ug rfl rfl rfl) rfl ?_
      refine wg_un (i := 26) (listed' := #[true, true, true, true, true, true, true, true, true, true, true, true, true, true, true, true, true, true, true, true, true, true, true, true, true, true, true, false]) rfl (by kernel_rfl) (pk_then (pk_then (pk_then pk_body))) (by kernel_rfl) rfl (by kernel_rfl) (by kernel_rfl) rfl ⟨⟨hS113.hasK ((hS82.le.trans hS98.le).trans hS111.le), hS113.hasObj (.tail _ (.tail _ (.head _))), hS113.hasObj (.tail _ (.tail _ (.tail _ (.tail _ (.head _)))))⟩, (fun _ => trivial), by decide⟩ (ug rfl rfl rfl) rfl ?_
      refine wg_val (i := 27) (listed' := #[true, true, true, true, true, true, true, true, true, true, true, true, true, true, true, true, true, true, true, true, true, true, true, true, true, true, true, true]) (fun _ => True) rfl (by kernel_rfl) (pk_then (pk_then (pk_then pk_body))) (by kernel_rfl) rfl (by kernel_rfl) (by kernel_rfl) rfl (.inl fun _ _ => trivial) ⟨⟨hS113.hasK ((hS82.le.trans hS98.le).trans hS111.le), hS113.hasObj (.tail _ (.tail _ (.head _))), hS113.hasObj (.tail _ (.tail _ (.tail _ (.tail _ (.head _)))))⟩, (fun _ => trivial), by decide⟩ wn rfl (fun _ _ => (rv_pick_t (v := .bool true) rfl rfl rfl)) ?_
      refine wg_done (by kernel_rfl) ?_
      obtain rfl := oi h115
      have hS116 : SH _ _ _ _ _ [_, _, _, _, _, _, _, _] := SH.front (p := [_, _]) hS113
      have hS117 : SH _ _ _ _ _ [_, _, _, _, _, _, _, _] := SH.front (p := [_, _, _, _]) hS116
      have hS118 : SH _ _ _ _ _ [_, _] := SH.sublist hS117 (.cons_cons _ (.cons_cons _ (.cons _ (.cons _ (.cons _ (.cons _ (.cons _ (.cons _ .slnil))))))))
      exact qe_mid' ⟨K109, rfl, hS118, ((hS82.le.trans hS98.le).trans hS111.le)⟩ ⟨rfl, rfl, rfl, rfl, rfl, trivial⟩
     ·have h115 := cond_f hb114 h108
      refine wg_val (i := 13) (listed' := #[true, true, true, true, true, true, true, true, true, true, true, true, true, true, false, false, false, false, false, false, false, false, false, false, false, false, false, false]) (fun _ => True) rfl (by kernel_rfl) (pk_then (pk_then (pk_then pk_body))) (by kernel_rfl) rfl (by kernel_rfl) (by kernel_rfl) rfl (.inl fun _ _ => trivial) ⟨⟨hS113.hasK ((hS82.le.trans hS98.le).trans hS111.le), hS113.hasObj (.tail _ (.tail _ (.head _))), hS113.hasObj (.tail _ (.tail _ (.tail _ (.tail _ (.head _)))))⟩, (fun _ => trivial), by decide⟩ (wg rfl rfl hb114) rfl (fun _ _ => (rv_move rfl)) ?_
      refine wg_val (i := 14) (listed' := #[true, true, true, true, true, true, true, true, true, true, true, true, true, true, true, false, false, false, false, false, false, false, false, false, false, false, false, false]) (fun _ => True) rfl (by kernel_rfl) (pk_then (pk_then (pk_then pk_body))) (by kernel_rfl) rfl (by kernel_rfl) (by kernel_rfl) rfl (.inl fun _ _ => trivial) ⟨⟨hS113.hasK ((hS82.le.trans hS98.le).trans hS111.le), hS113.hasObj (.tail _ (.tail _ (.head _))), hS113.hasObj (.tail _ (.tail _ (.tail _ (.tail _ (.head _)))))⟩, (fun _ => trivial), by decide⟩ (wg rfl rfl hb114) rfl (fun _ _ => (rv_len (t := tGDoc) Try.underlying23 rfl (SliceAt.mono (((hS51.le.trans hS82.le).trans hS98.le).trans hS111.le) hs37))) ?_
      refine wg_val (i := 15) (listed' := #[true, true, true, true, true, true, true, true, true, true, true, true, true, true, true, true, false, false, false, false, false, false, false, false, false, false, false, false]) (fun _ => True) rfl (by kernel_rfl) (pk_then (pk_then (pk_then pk_body))) (by kernel_rfl) rfl (by kernel_rfl) (by kernel_rfl) rfl (.inl fun _ _ => trivial) ⟨⟨hS113.hasK ((hS82.le.trans hS98.le).trans hS111.le), hS113.hasObj (.tail _ (.tail _ (.head _))), hS113.hasObj (.tail _ (.tail _ (.tail _ (.tail _ (.head _)))))⟩, (fun _ => trivial), by decide⟩ (wg rfl rfl hb114) rfl (fun _ _ => (rv_eql rfl rfl)) ?_
      refine wg_val (i := 16) (listed' := #[true, true, true, true, true, true, true, true, true, true, true, true, true, true, true, true, true, false, false, false, false, false, false, false, false, false, false, false]) (fun _ => True) rfl (by kernel_rfl) (pk_then (pk_then (pk_then pk_body))) (by kernel_rfl) rfl (by kernel_rfl) (by kernel_rfl) rfl (.inl fun _ _ => trivial) ⟨⟨hS113.hasK ((hS82.le.trans hS98.le).trans hS111.le), hS113.hasObj (.tail _ (.tail _ (.head _))), hS113.hasObj (.tail _ (.tail _ (.tail _ (.tail _ (.head _)))))⟩, (fun _ => trivial), by decide⟩ wn rfl (fun _ _ => (rv_pick_f rfl hb114 rfl)) ?_
      refine wg_val (i := 17) (listed' := #[true, true, true, true, true, true, true, true, true, true, true, true, true, true, true, true, true, true, false, false, false, false, false, false, false, false, false, false]) (fun _ => True) rfl (by kernel_rfl) (pk_then (pk_then (pk_then pk_body))) (by kernel_rfl) rfl (by kernel_rfl) (by kernel_rfl) rfl (.inl fun _ _ => trivial) ⟨⟨hS113.hasK ((hS82.le.trans hS98.le).trans hS111.le), hS113.hasObj (.tail _ (.tail _ (.head _))), hS113.hasObj (.tail _ (.tail _ (.tail _ (.tail _ (.head _)))))⟩, (fun _ => trivial), by decide⟩ wn rfl (fun _ _ => (rv_move rfl)) ?_
      rcases bool_tf (((r20.2.length : Int) == (0 : Int))) with hb119 | hb119
      ·have h120 := cond_t hb119 h115
       refine wg_un (i := 18) (listed' := #[true, true, true, true, true, true, true, true, true, true, true, true, true, true, true, true, true, true, true, false, false, false, false, false, false, false, false, false]) rfl (by kernel_rfl) (pk_then (pk_then (pk_then pk_body))) (by kernel_rfl) rfl (by kernel_rfl) (by kernel_rfl) rfl ⟨⟨hS113.hasK ((hS82.le.trans hS98.le).trans hS111.le), hS113.hasObj (.tail _ (.tail _ (.head _))), hS113.hasObj (.tail _ (.tail _ (.tail _ (.tail _ (.head _)))))⟩, (fun _ => trivial), by decide⟩ (ug rfl rfl hb119) rfl ?_
       refine wg_one (i := 19) (by kernel_rfl) rfl ?_
       refine wl_un (ug rfl rfl hb119) rfl ?_
       refine wl_nil (qe_held (listed' := #[true, true, true, true, true, true, true, true, true, true, true, true, true, true, true, true, true, true, true, true, false, false, false, false, false, false, false, false]) rfl ⟨⟨hS113.hasK ((hS82.le.trans hS98.le).trans hS111.le), hS113.hasObj (.tail _ (.tail _ (.head _))), hS113.hasObj (.tail _ (.tail _ (.tail _ (.tail _ (.head _)))))⟩, (fun _ => trivial), by decide⟩ ?_)
       refine wg_un (i := 20) (listed' := #[true, true, true, true, true, true, true, true, true, true, true, true, true, true, true, true, true, true, true, true, true, false, false, false, false, false, false, false]) rfl (by kernel_rfl) (pk_then (pk_then (pk_then pk_body))) (by kernel_rfl) rfl (by kernel_rfl) (by kernel_rfl) rfl ⟨⟨hS113.hasK ((hS82.le.trans hS98.le).trans hS111.le), hS113.hasObj (.tail _ (.tail _ (.head _))), hS113.hasObj (.tail _ (.tail _ (.tail _ (.tail _ (.head _)))))⟩, (fun _ => trivial), by decide⟩ (ug rfl rfl hb119) rfl ?_
       refine wg_val (i := 21) (listed' := #[true, true, true, true, true, true, true, true, true, true, true, true, true, true, true, true, true, true, true, true, true, true, false, false, false, false, false, false]) (fun _ => True) rfl (by kernel_rfl) (pk_then (pk_then (pk_then pk_body))) (by kernel_rfl) rfl (by kernel_rfl) (by kernel_rfl) rfl (.inl fun _ _ => trivial) ⟨⟨hS113.hasK ((hS82.le.trans hS98.le).trans hS111.le), hS113.hasObj (.tail _ (.tail _ (.head _))), hS113.hasObj (.tail _ (.tail _ (.tail _ (.tail _ (.head _)))))⟩, (fun _ => trivial), by decide⟩ wn rfl (fun _ _ => (rv_pick_t (v := .bool true) rfl hb119 rfl)) ?_
       refine wg_val (i := 22) (listed' := #[true, true, true, true, true, true, true, true, true, true, true, true, true, true, true, true, true, true, true, true, true, true, true, false, false, false, false, false]) (fun _ => True) rfl (by kernel_rfl) (pk_then (pk_then (pk_then pk_body))) (by kernel_rfl) rfl (by kernel_rfl) (by kernel_rfl) rfl (.inl fun _ _ => trivial) ⟨⟨hS113.hasK ((hS82.le.trans hS98.le).trans hS111.le), hS113.hasObj (.tail _ (.tail _ (.head _))), hS113.hasObj (.tail _ (.tail _ (.tail _ (.tail _ (.head _)))))⟩, (fun _ => trivial), by decide⟩ wn rfl (fun _ _ => (rv_move rfl)) ?_
       refine wg_un (i := 23) (listed' := #[true, true, true, true, true, true, true, true, true, true, true, true, true, true, true, true, true, true, true, true, true, true, true, true, false, false, false, false]) rfl (by kernel_rfl) (pk_then (pk_then (pk_then pk_body))) (by kernel_rfl) rfl (by kernel_rfl) (by kernel_rfl) rfl ⟨⟨hS113.hasK ((hS82.le.trans hS98.le).trans hS111.le), hS113.hasObj (.tail _ (.tail _ (.head _))), hS113.hasObj (.tail _ (.tail _ (.tail _ (.tail _ (.head _)))))⟩, (fun _ => trivial), by decide⟩ (ug rfl rfl rfl) rfl ?_
       refine wg_un (i := 24) (listed' := #[true, true, true, true, true, true, true, true, true, true, true, true, true, true, true, true, true, true, true, true, true, true, true, true, true, false, false, false]) rfl (by kernel_rfl) (pk_then (pk_then (pk_then pk_body))) (by kernel_rfl) rfl (by kernel_rfl) (by kernel_rfl) rfl ⟨⟨hS113.hasK ((hS82.le.trans hS98.le).trans hS111.le), hS113.hasObj (.tail _ (.tail _ (.head _))), hS113.hasObj (.tail _ (.tail _ (.tail _ (.tail _ (.head _)))))⟩, (fun _ => trivial), by decide⟩ (ug rfl rfl rfl) rfl ?_
       refine wg_un (i := 25) (listed' := #[true, true, true, true, true, true, true, true, true, true, true, true, true, true, true, true, true, true, true, true, true, true, true, true, true, true, false, false]) rfl (by kernel_rfl) (pk_then (pk_then (pk_then pk_body))) (by kernel_rfl) rfl (by kernel_rfl) (by kernel_rfl) rfl ⟨⟨hS113.hasK ((hS82.le.trans hS98.le).trans hS111.le), hS113.hasObj (.tail _ (.tail _ (.head _))), hS113.hasObj (.tail _ (.tail _ (.tail _ (.tail _ (.head _)))))⟩, (fun _ => trivial), by decide⟩ (ug rfl rfl rfl) rfl ?_
       refine wg_un (i := 26) (listed' := #[true, true, true, true, true, true, true, true, true, true, true, true, true, true, true, true, true, true, true, true, true, true, true, true, true, true, true, false]) rfl (by kernel_rfl) (pk_then (pk_then (pk_then pk_body))) (by kernel_rfl) rfl (by kernel_rfl) (by kernel_rfl) rfl ⟨⟨hS113.hasK ((hS82.le.trans hS98.le).trans hS111.le), hS113.hasObj (.tail _ (.tail _ (.head _))), hS113.hasObj (.tail _ (.tail _ (.tail _ (.tail _ (.head _)))))⟩, (fun _ => trivial), by decide⟩ (ug rfl rfl rfl) rfl ?_
       refine wg_val (i := 27) (listed' := #[true, true, true, true, true, true, true, true, true, true, true, true, true, true, true, true, true, true, true, true, true, true, true, true, true, true, true, true]) (fun _ => True) rfl (by kernel_rfl) (pk_then (pk_then (pk_then pk_body))) (by kernel_rfl) rfl (by kernel_rfl) (by kernel_rfl) rfl (.inl fun _ _ => trivial) ⟨⟨hS113.hasK ((hS82.le.trans hS98.le).trans hS111.le), hS113.hasObj (.tail _ (.tail _ (.head _))), hS113.hasObj (.tail _ (.tail _ (.tail _ (.tail _ (.head _)))))⟩, (fun _ => trivial), by decide⟩ wn rfl (fun _ _ => (rv_pick_t (v := .bool true) rfl rfl rfl)) ?_
       refine wg_done (by kernel_rfl) ?_
       obtain rfl := oi h120
       have hS121 : SH _ _ _ _ _ [_, _, _, _, _, _, _, _] := SH.front (p := [_, _]) hS113
       have hS122 : SH _ _ _ _ _ [_, _, _, _, _, _, _, _] := SH.front (p := [_, _, _, _]) hS121
       have hS123 : SH _ _ _ _ _ [_, _] := SH.sublist hS122 (.cons_cons _ (.cons_cons _ (.cons _ (.cons _ (.cons _ (.cons _ (.cons _ (.cons _ .slnil))))))))
       exact qe_mid' ⟨K109, rfl, hS123, ((hS82.le.trans hS98.le).trans hS111.le)⟩ ⟨rfl, rfl, rfl, rfl, rfl, trivial⟩
      ·have h120 := cond_f hb119 h115
       refine wg_val (i := 18) (listed' := #[true, true, true, true, true, true, true, true, true, true, true, true, true, true, true, true, true, true, true, false, false, false, false, false, false, false, false, false]) (fun _ => True) rfl (by kernel_rfl) (pk_then (pk_then (pk_then pk_body))) (by kernel_rfl) rfl (by kernel_rfl) (by kernel_rfl) rfl (.inl fun _ _ => trivial) ⟨⟨hS113.hasK ((hS82.le.trans hS98.le).trans hS111.le), hS113.hasObj (.tail _ (.tail _ (.head _))), hS113.hasObj (.tail _ (.tail _ (.tail _ (.tail _ (.head _)))))⟩, (fun _ => trivial), by decide⟩ (wg rfl rfl hb119) rfl (fun _ _ => (rv_move rfl)) ?_
       refine wg_one (i := 19) (by kernel_rfl) rfl ?_
       obtain ⟨r124, hx125, h126⟩ := ob h120
       refine wl_call (wg rfl rfl hb119) rfl (rt_call (vs := [.slice a34 n35 c36]) co12 rfl) ((ok_impl_DocsOk F) hS113.enter0 (SliceAt.mono (((hS51.le.trans hS82.le).trans hS98.le).trans hS111.le) hs37) hx125) ?_
       rintro e130 w128 ⟨K127, rfl, hS129⟩
       refine ⟨_, rfl, ?_⟩
       have hS131 : SH _ _ _ _ _ [_, _, _, _, _, _, _, _] := SH.call0 hS113 hS129
       refine wl_nil (qe_held (listed' := #[true, true, true, true, true, true, true, true, true, true, true, true, true, true, true, true, true, true, true, true, false, false, false, false, false, false, false, false]) rfl ⟨⟨hS131.hasK (((hS82.le.trans hS98.le).trans hS111.le).trans hS129.le), hS131.hasObj (.tail _ (.tail _ (.head _))), hS131.hasObj (.tail _ (.tail _ (.tail _ (.tail _ (.head _)))))⟩, (fun _ => trivial), by decide⟩ ?_)
       refine wg_val (i := 20) (listed' := #[true, true, true, true, true, true, true, true, true, true, true, true, true, true, true, true, true, true, true, true, true, false, false, false, false, false, false, false]) (fun _ => True) rfl (by kernel_rfl) (pk_then (pk_then (pk_then pk_body))) (by kernel_rfl) rfl (by kernel_rfl) (by kernel_rfl) rfl (.inl fun _ _ => trivial) ⟨⟨hS131.hasK (((hS82.le.trans hS98.le).trans hS111.le).trans hS129.le), hS131.hasObj (.tail _ (.tail _ (.head _))), hS131.hasObj (.tail _ (.tail _ (.tail _ (.tail _ (.head _)))))⟩, (fun _ => trivial), by decide⟩ (wg rfl rfl hb119) rfl (fun _ _ => (rv_not rfl)) ?_
       refine wg_val (i := 21) (listed' := #[true, true, true, true, true, true, true, true, true, true, true, true, true, true, true, true, true, true, true, true, true, true, false, false, false, false, false, false]) (fun _ => True) rfl (by kernel_rfl) (pk_then (pk_then (pk_then pk_body))) (by kernel_rfl) rfl (by kernel_rfl) (by kernel_rfl) rfl (.inl fun _ _ => trivial) ⟨⟨hS131.hasK (((hS82.le.trans hS98.le).trans hS111.le).trans hS129.le), hS131.hasObj (.tail _ (.tail _ (.head _))), hS131.hasObj (.tail _ (.tail _ (.tail _ (.tail _ (.head _)))))⟩, (fun _ => trivial), by decide⟩ wn rfl (fun _ _ => (rv_pick_f rfl hb119 rfl)) ?_
       refine wg_val (i := 22) (listed' := #[true, true, true, true, true, true, true, true, true, true, true, true, true, true, true, true, true, true, true, true, true, true, true, false, false, false, false, false]) (fun _ => True) rfl (by kernel_rfl) (pk_then (pk_then (pk_then pk_body))) (by kernel_rfl) rfl (by kernel_rfl) (by kernel_rfl) rfl (.inl fun _ _ => trivial) ⟨⟨hS131.hasK (((hS82.le.trans hS98.le).trans hS111.le).trans hS129.le), hS131.hasObj (.tail _ (.tail _ (.head _))), hS131.hasObj (.tail _ (.tail _ (.tail _ (.tail _ (.head _)))))⟩, (fun _ => trivial), by decide⟩ wn rfl (fun _ _ => (rv_move rfl)) ?_
       rcases bool_tf ((!r124)) with hb132 | hb132
       ·have h133 := cond_t hb132 h126
        refine wg_un (i := 23) (listed' := #[true, true, true, true, true, true, true, true, true, true, true, true, true, true, true, true, true, true, true, true, true, true, true, true, false, false, false, false]) rfl (by kernel_rfl) (pk_then (pk_then (pk_then pk_body))) (by kernel_rfl) rfl (by kernel_rfl) (by kernel_rfl) rfl ⟨⟨hS131.hasK (((hS82.le.trans hS98.le).trans hS111.le).trans hS129.le), hS131.hasObj (.tail _ (.tail _ (.head _))), hS131.hasObj (.tail _ (.tail _ (.tail _ (.tail _ (.head _)))))⟩, (fun _ => trivial), by decide⟩ (ug rfl rfl hb132) rfl ?_
        refine wg_un (i := 24) (listed' := #[true, true, true, true, true, true, true, true, true, true, true, true, true, true, true, true, true, true, true, true, true, true, true, true, true, false, false, false]) rfl (by kernel_rfl) (pk_then (pk_then (pk_then pk_body))) (by kernel_rfl) rfl (by kernel_rfl) (by kernel_rfl) rfl ⟨⟨hS131.hasK (((hS82.le.trans hS98.le).trans hS111.le).trans hS129.le), hS131.hasObj (.tail _ (.tail _ (.head _))), hS131.hasObj (.tail _ (.tail _ (.tail _ (.tail _ (.head _)))))⟩, (fun _ => trivial), by decide⟩ (ug rfl rfl hb132) rfl ?_
        refine wg_un (i := 25) (listed' := #[true, true, true, true, true, true, true, true, true, true, true, true, true, true, true, true, true, true, true, true, true, true, true, true, true, true, false, false]) rfl (by kernel_rfl) (pk_then (pk_then (pk_then pk_body))) (by kernel_rfl) rfl (by kernel_rfl) (by kernel_rfl) rfl ⟨⟨hS131.hasK (((hS82.le.trans hS98.le).trans hS111.le).trans hS129.le), hS131.hasObj (.tail _ (.tail _ (.head _))), hS131.hasObj (.tail _ (.tail _ (.tail _ (.tail _ (.head _)))))⟩, (fun _ => trivial), by decide⟩ (ug rfl rfl hb132) rfl ?_
        refine wg_un (i := 26) (listed' := #[true, true, true, true, true, true, true, true, true, true, true, true, true, true, true, true, true, true, true, true, true, true, true, true, true, true, true, false]) rfl (by kernel_rfl) (pk_then (pk_then (pk_then pk_body))) (by kernel_rfl) rfl (by kernel_rfl) (by kernel_rfl) rfl ⟨⟨hS131.hasK (((hS82.le.trans hS98.le).trans hS111.le).trans hS129.le), hS131.hasObj (.tail _ (.tail _ (.head _))), hS131.hasObj (.tail _ (.tail _ (.tail _ (.tail _ (.head _)))))⟩, (fun _ => trivial), by decide⟩ (ug rfl rfl hb132) rfl ?_
        refine wg_val (i := 27) (listed' := #[true, true, true, true, true, true, true, true, true, true, true, true, true, true, true, true, true, true, true, true, true, true, true, true, true, true, true, true]) (fun _ => True) rfl (by kernel_rfl) (pk_then (pk_then (pk_then pk_body))) (by kernel_rfl) rfl (by kernel_rfl) (by kernel_rfl) rfl (.inl fun _ _ => trivial) ⟨⟨hS131.hasK (((hS82.le.trans hS98.le).trans hS111.le).trans hS129.le), hS131.hasObj (.tail _ (.tail _ (.head _))), hS131.hasObj (.tail _ (.tail _ (.tail _ (.tail _ (.head _)))))⟩, (fun _ => trivial), by decide⟩ wn rfl (fun _ _ => (rv_pick_t (v := .bool true) rfl hb132 rfl)) ?_
        refine wg_done (by kernel_rfl) ?_
        obtain rfl := oi h133
        have hS134 : SH _ _ _ _ _ [_, _, _, _, _, _, _, _] := SH.front (p := [_, _]) hS131
        have hS135 : SH _ _ _ _ _ [_, _, _, _, _, _, _, _] := SH.front (p := [_, _, _, _]) hS134
        have hS136 : SH _ _ _ _ _ [_, _] := SH.sublist hS135 (.cons_cons _ (.cons_cons _ (.cons _ (.cons _ (.cons _ (.cons _ (.cons _ (.cons _ .slnil))))))))
        exact qe_mid' ⟨K127, rfl, hS136, (((hS82.le.trans hS98.le).trans hS111.le).trans hS129.le)⟩ ⟨rfl, rfl, rfl, rfl, rfl, trivial⟩
       ·have h133 := cond_f hb132 h126
        refine wg_val (i := 23) (listed' := #[true, true, true, true, true, true, true, true, true, true, true, true, true, true, true, true, true, true, true, true, true, true, true, true, false, false, false, false]) (fun _ => True) rfl (by kernel_rfl) (pk_then (pk_then (pk_then pk_body))) (by kernel_rfl) rfl (by kernel_rfl) (by kernel_rfl) rfl (.inl fun _ _ => trivial) ⟨⟨hS131.hasK (((hS82.le.trans hS98.le).trans hS111.le).trans hS129.le), hS131.hasObj (.tail _ (.tail _ (.head _))), hS131.hasObj (.tail _ (.tail _ (.tail _ (.tail _ (.head _)))))⟩, (fun _ => trivial), by decide⟩ (wg rfl rfl hb132) rfl (fun _ _ => (rv_fieldAddr ff42_0 rfl)) ?_
        refine wg_val (i := 24) (listed' := #[true, true, true, true, true, true, true, true, true, true, true, true, true, true, true, true, true, true, true, true, true, true, true, true, true, false, false, false]) (HasObj g62 [.slice a52 n53 c54, .slice a56 n57 c58]) rfl (by kernel_rfl) (pk_then (pk_then (pk_then pk_body))) (by kernel_rfl) rfl (by kernel_rfl) (by kernel_rfl) rfl (.inl fun _ h => h.2.1) ⟨⟨hS131.hasK (((hS82.le.trans hS98.le).trans hS111.le).trans hS129.le), hS131.hasObj (.tail _ (.tail _ (.head _))), hS131.hasObj (.tail _ (.tail _ (.tail _ (.tail _ (.head _)))))⟩, (fun _ => trivial), by decide⟩ (wg rfl rfl hb132) rfl (fun _ h => rh_loadm1 tf23 rfl rfl h) ?_
        refine wg_val (i := 25) (listed' := #[true, true, true, true, true, true, true, true, true, true, true, true, true, true, true, true, true, true, true, true, true, true, true, true, true, true, false, false]) (fun _ => True) rfl (by kernel_rfl) (pk_then (pk_then (pk_then pk_body))) (by kernel_rfl) rfl (by kernel_rfl) (by kernel_rfl) rfl (.inl fun _ _ => trivial) ⟨⟨hS131.hasK (((hS82.le.trans hS98.le).trans hS111.le).trans hS129.le), hS131.hasObj (.tail _ (.tail _ (.head _))), hS131.hasObj (.tail _ (.tail _ (.tail _ (.tail _ (.head _)))))⟩, (fun _ => trivial), by decide⟩ (wg rfl rfl hb132) rfl (fun _ _ => (rv_len (t := tGDoc) Try.underlying23 rfl (SliceAt.mono (((hS82.le.trans hS98.le).trans hS111.le).trans hS129.le) hs55))) ?_
        refine wg_val (i := 26) (listed' := #[true, true, true, true, true, true, true, true, true, true, true, true, true, true, true, true, true, true, true, true, true, true, true, true, true, true, true, false]) (fun _ => True) rfl (by kernel_rfl) (pk_then (pk_then (pk_then pk_body))) (by kernel_rfl) rfl (by kernel_rfl) (by kernel_rfl) rfl (.inl fun _ _ => trivial) ⟨⟨hS131.hasK (((hS82.le.trans hS98.le).trans hS111.le).trans hS129.le), hS131.hasObj (.tail _ (.tail _ (.head _))), hS131.hasObj (.tail _ (.tail _ (.tail _ (.tail _ (.head _)))))⟩, (fun _ => trivial), by decide⟩ (wg rfl rfl hb132) rfl (fun _ _ => (rv_eql rfl rfl)) ?_
        refine wg_val (i := 27) (listed' := #[true, true, true, true, true, true, true, true, true, true, true, true, true, true, true, true, true, true, true, true, true, true, true, true, true, true, true, true]) (fun _ => True) rfl (by kernel_rfl) (pk_then (pk_then (pk_then pk_body))) (by kernel_rfl) rfl (by kernel_rfl) (by kernel_rfl) rfl (.inl fun _ _ => trivial) ⟨⟨hS131.hasK (((hS82.le.trans hS98.le).trans hS111.le).trans hS129.le), hS131.hasObj (.tail _ (.tail _ (.head _))), hS131.hasObj (.tail _ (.tail _ (.tail _ (.tail _ (.head _)))))⟩, (fun _ => trivial), by decide⟩ wn rfl (fun _ _ => (rv_pick_f rfl hb132 rfl)) ?_
        refine wg_done (by kernel_rfl) ?_
        obtain rfl := oi h133
        have hS137 : SH _ _ _ _ _ [_, _, _, _, _, _, _, _] := SH.front (p := [_, _]) hS131
        have hS138 : SH _ _ _ _ _ [_, _, _, _, _, _, _, _] := SH.front (p := [_, _, _, _]) hS137
        have hS139 : SH _ _ _ _ _ [_, _] := SH.sublist hS138 (.cons_cons _ (.cons_cons _ (.cons _ (.cons _ (.cons _ (.cons _ (.cons _ (.cons _ .slnil))))))))
        exact qe_mid' ⟨K127, rfl, hS139, (((hS82.le.trans hS98.le).trans hS111.le).trans hS129.le)⟩ ⟨rfl, rfl, rfl, rfl, rfl, trivial⟩
   ·rintro _ w73 ⟨K71, rfl, hS74, hl72⟩
    refine qe_seq ?_
    refine wc_cond rfl (fun hb140 => ?_) (fun hb140 => ?_)
    ·have h141 := cond_t hb140 h70
     refine wc_seq ?_
     refine wc_held (fun w' => Holds K71 w' ∧ HasObj g62 [.slice a52 n53 c54, .slice a56 n57 c58] w' ∧ HasObj g40 [.slice a26 n27 c28, .slice a30 n31 c32] w') (fun w' => True) 6 [] mixed ?_
     have hS143 := SH.drew hS74
     refine wg_val (i := 0) (listed' := #[true, false, false, false, false, false]) (HasObj g62 [.slice a52 n53 c54, .slice a56 n57 c58]) rfl (by kernel_rfl) (pk_then (pk_then pk_body)) (by kernel_rfl) rfl (by kernel_rfl) (by kernel_rfl) rfl (.inl fun _ h => h.2.1) ⟨⟨hS143.hasK (KLe.refl _), hS143.hasObj (.tail _ (.head _)), hS143.hasObj (.head _)⟩, (fun _ => trivial), by decide⟩ wn rfl (fun _ h => rh_loadmS (ds := [.slice a52 n53 c54, .slice a56 n57 c58]) tf42 rfl rfl rfl h) ?_
     refine wg_val (i := 1) (listed' := #[true, true, false, false, false, false]) (HasObj g40 [.slice a26 n27 c28, .slice a30 n31 c32]) rfl (by kernel_rfl) (pk_then (pk_then pk_body)) (by kernel_rfl) rfl (by kernel_rfl) (by kernel_rfl) rfl (.inl fun _ h => h.2.2) ⟨⟨hS143.hasK (KLe.refl _), hS143.hasObj (.tail _ (.head _)), hS143.hasObj (.head _)⟩, (fun _ => trivial), by decide⟩ wn rfl (fun _ h => rh_loadmS (ds := [.slice a26 n27 c28, .slice a30 n31 c32]) tf39 rfl rfl rfl h) ?_
     refine wg_val (i := 2) (listed' := #[true, true, true, false, false, false]) (fun _ => True) rfl (by kernel_rfl) (pk_then (pk_then pk_body)) (by kernel_rfl) rfl (by kernel_rfl) (by kernel_rfl) rfl (.inl fun _ _ => trivial) ⟨⟨hS143.hasK (KLe.refl _), hS143.hasObj (.tail _ (.head _)), hS143.hasObj (.head _)⟩, (fun _ => trivial), by decide⟩ wn rfl (fun _ _ => (rv_move rfl)) ?_
     refine wg_one (i := 3) (by kernel_rfl) rfl ?_
     obtain ⟨r144, hx145, h146⟩ := ob h141
     refine wl_call wn rfl (rt_call (vs := [.agg #[.slice a26 n27 c28, .slice a30 n31 c32], .slice a34 n35 c36]) co23 rfl) ((ok_spec_SegOf F) hS143.enter0 (SliceAt.mono (hS51.le.trans hl72) hs29) (SliceAt.mono (hS51.le.trans hl72) hs33) (SliceAt.mono (hS51.le.trans hl72) hs37) hx145) ?_
     rintro e158 w148 ⟨a150, n151, c152, a154, n155, c156, K147, rfl, hS149, hs153, hs157⟩
     refine ⟨_, rfl, ?_⟩
     have hS159 : SH _ _ _ _ _ [_, _, _, _] := SH.call0 hS143 hS149
     refine wl_nil (qe_held (listed' := #[true, true, true, true, false, false]) rfl ⟨⟨hS159.hasK hS149.le, hS159.hasObj (.tail _ (.tail _ (.tail _ (.head _)))), hS159.hasObj (.tail _ (.tail _ (.head _)))⟩, (fun _ => trivial), by decide⟩ ?_)
     refine wg_one (i := 4) (by kernel_rfl) rfl ?_
     obtain ⟨r160, hx161, h162⟩ := ob h146
     refine wl_call wn rfl (rt_call (vs := [.agg #[.slice a52 n53 c54, .slice a56 n57 c58], .agg #[.slice a150 n151 c152, .slice a154 n155 c156]]) co22 rfl) ((ok_laws_foSeg F) hS159.enter0 (SliceAt.mono (hl72.trans hS149.le) hs55) (SliceAt.mono (hl72.trans hS149.le) hs59) hs153 hs157 hx161) ?_
     rintro e166 w164 ⟨K163, rfl, hS165⟩
     refine ⟨_, rfl, ?_⟩
     have hS167 : SH _ _ _ _ _ [_, _, _, _] := SH.call0 hS159 hS165
     refine wl_nil (qe_held (listed' := #[true, true, true, true, true, false]) rfl ⟨⟨hS167.hasK (hS149.le.trans hS165.le), hS167.hasObj (.tail _ (.tail _ (.tail _ (.head _)))), hS167.hasObj (.tail _ (.tail _ (.head _)))⟩, (fun _ => trivial), by decide⟩ ?_)
     refine wg_val (i := 5) (listed' := #[true, true, true, true, true, true]) (fun _ => True) rfl (by kernel_rfl) (pk_then (pk_then pk_body)) (by kernel_rfl) rfl (by kernel_rfl) (by kernel_rfl) rfl (.inl fun _ _ => trivial) ⟨⟨hS167.hasK (hS149.le.trans hS165.le), hS167.hasObj (.tail _ (.tail _ (.tail _ (.head _)))), hS167.hasObj (.tail _ (.tail _ (.head _)))⟩, (fun _ => trivial), by decide⟩ wn rfl (fun _ _ => (rv_assign rfl)) ?_
     refine wg_done (by kernel_rfl) ?_
     refine qe_seq ?_
     refine rr ?_
     obtain rfl := oi h162
     have hS168 : SH _ _ _ _ _ [] := SH.sublist hS167 (.cons _ (.cons _ (.cons _ (.cons _ .slnil))))
     exact qe_ret (vs := [_]) Try.results6 ⟨rfl, trivial⟩ ⟨K163, rfl, hS168⟩
    ·have h141 := cond_f hb140 h70
     refine wc_skip ?_
     refine qr ?_
     refine vm rfl rfl ?_
     refine wl_val wn rfl (rv_len (t := tU8) Try.underlying22 rfl (SliceAt.mono (((hl13.trans hS25.le).trans hS51.le).trans hl72) hs8)) ?_
     refine vm rfl rfl ?_
     refine wl_val wn rfl (rv_len (t := tGDoc) Try.underlying23 rfl (SliceAt.mono (hS51.le.trans hl72) hs37)) ?_
     obtain ⟨x169, hx170, h171⟩ := ob h141
     refine wl_val wn rfl (rv_rem rfl rfl hx170) ?_
     refine va rfl rfl ?_
     refine ns ?_
     obtain ⟨o172, h173, h174⟩ := ob h171
     refine wc_cutg (fun E' w' => ∃ (g179 : Nat) (a180 : Option Addr) (n181 c182 : Nat) (a184 : Option Addr) (n185 c186 : Nat) (K175 : KMap), E' = [(5, .pointer (some ⟨g40, 0, none⟩)), (6, .slice a34 n35 c36), (7, .pointer (some ⟨g62, 0, none⟩)), (8, .int .i64 x169), (9, .pointer (some ⟨g179, 0, none⟩))] ∧ SH w K [] w' K175 [obj g179 [.slice a180 n181 c182, .slice a184 n185 c186] 42, obj g40 [.slice a26 n27 c28, .slice a30 n31 c32] 39, obj g62 [.slice a52 n53 c54, .slice a56 n57 c58] 42] ∧ KLe K71 K175 ∧ SliceAt tGDoc K175 a180 n181 c182 o172.Docs ∧ SliceAt tGEntry K175 a184 n185 c186 o172.Entries) ?_ ?_
     ·obtain ⟨x190, hx191, h192⟩ := ob h173
      obtain ⟨x197, hx198, h199⟩ := ob h192
      obtain ⟨x210, hx211, h212⟩ := ob h199
      obtain ⟨x221, hx222, h223⟩ := ob h212
      obtain ⟨r232, hx233, h234⟩ := ob h223
      refine wc_held (fun w' => Holds K71 w' ∧ HasObj g40 [.slice a26 n27 c28, .slice a30 n31 c32] w') (fun w' => True) 14 [] mixed ?_
      have hS189 := SH.drew hS74
      refine wg_val (i := 0) (listed' := #[true, false, false, false, false, false, false, false, false, false, false, false, false, false]) (HasObj g40 [.slice a26 n27 c28, .slice a30 n31 c32]) rfl (by kernel_rfl) (pk_then (pk_then pk_body)) (by kernel_rfl) rfl (by kernel_rfl) (by kernel_rfl) rfl (.inl fun _ h => h.2) ⟨⟨hS189.hasK (KLe.refl _), hS189.hasObj (.head _)⟩, (fun _ => trivial), by decide⟩ wn rfl (fun _ h => rh_loadmS (ds := [.slice a26 n27 c28, .slice a30 n31 c32]) tf39 rfl rfl rfl h) ?_
      refine wg_val (i := 2) (listed' := #[true, false, true, false, false, false, false, false, false, false, false, false, false, false]) (fun _ => True) rfl (by kernel_rfl) (pk_then (pk_then pk_body)) (by kernel_rfl) rfl (by kernel_rfl) (by kernel_rfl) rfl (.inl fun _ _ => trivial) ⟨⟨hS189.hasK (KLe.refl _), hS189.hasObj (.head _)⟩, (fun _ => trivial), by decide⟩ wn rfl (fun _ _ => (rv_move rfl)) ?_
      refine wg_val (i := 3) (listed' := #[true, false, true, true, false, false, false, false, false, false, false, false, false, false]) (fun _ => True) rfl (by kernel_rfl) (pk_then (pk_then pk_body)) (by kernel_rfl) rfl (by kernel_rfl) (by kernel_rfl) rfl (.inl fun _ _ => trivial) ⟨⟨hS189.hasK (KLe.refl _), hS189.hasObj (.head _)⟩, (fun _ => trivial), by decide⟩ wn rfl (fun _ _ => (rv_move rfl)) ?_
      refine wg_sl_h (t := tGDoc) (j := 4) (listed' := #[true, false, true, true, true, false, false, false, false, false, false, false, false, false]) rfl (by kernel_rfl) (pk_then (pk_then pk_body)) (by kernel_rfl) rfl (by kernel_rfl) (by kernel_rfl) rfl ⟨⟨hS189.hasK (KLe.refl _), hS189.hasObj (.head _)⟩, (fun _ => trivial), by decide⟩ wn rfl Try.underlying23 tf49 rfl rfl (SliceAt.mono (hS51.le.trans hl72) hs37) hx191 ?_
      intro a254 n255 c256 hs257
      refine wg_val (i := 6) (listed' := #[true, false, true, true, true, false, true, false, false, false, false, false, false, false]) (fun _ => True) rfl (by kernel_rfl) (pk_then (pk_then pk_body)) (by kernel_rfl) rfl (by kernel_rfl) (by kernel_rfl) rfl (.inl fun _ _ => trivial) ⟨⟨hS189.hasK (KLe.refl _), hS189.hasObj (.head _)⟩, (fun _ => trivial), by decide⟩ wn rfl (fun _ _ => (rv_move rfl)) ?_
      refine wg_val (i := 7) (listed' := #[true, false, true, true, true, false, true, true, false, false, false, false, false, false]) (fun _ => True) rfl (by kernel_rfl) (pk_then (pk_then pk_body)) (by kernel_rfl) rfl (by kernel_rfl) (by kernel_rfl) rfl (.inl fun _ _ => trivial) ⟨⟨hS189.hasK (KLe.refl _), hS189.hasObj (.head _)⟩, (fun _ => trivial), by decide⟩ wn rfl (fun _ _ => (rv_move rfl)) ?_
      refine wg_val (i := 8) (listed' := #[true, false, true, true, true, false, true, true, true, false, false, false, false, false]) (fun _ => True) rfl (by kernel_rfl) (pk_then (pk_then pk_body)) (by kernel_rfl) rfl (by kernel_rfl) (by kernel_rfl) rfl (.inl fun _ _ => trivial) ⟨⟨hS189.hasK (KLe.refl _), hS189.hasObj (.head _)⟩, (fun _ => trivial), by decide⟩ wn rfl (fun _ _ => (rv_add rfl rfl)) ?_
      refine wg_sl_l (t := tGDoc) (j := 9) (listed' := #[true, false, true, true, true, false, true, true, true, true, false, false, false, false]) rfl (by kernel_rfl) (pk_then (pk_then pk_body)) (by kernel_rfl) rfl (by kernel_rfl) (by kernel_rfl) rfl ⟨⟨hS189.hasK (KLe.refl _), hS189.hasObj (.head _)⟩, (fun _ => trivial), by decide⟩ wn rfl Try.underlying23 tf49 rfl rfl (SliceAt.mono (hS51.le.trans hl72) hs37) hx198 ?_
      intro a258 n259 c260 hs261
      refine wg_many (l := [1, 12]) (by kernel_rfl) rfl ⟨⟨_, rfl, ?_⟩, ⟨_, rfl, ?_⟩, trivial⟩
      ·refine wl_buildSlice0 tGDoc wn rfl Try.underlying23 tf49 hS189 ?_
       intro a262 w263 K264 hl265 hs266 hS267
       refine wl_nil (qe_held (listed' := #[true, true, true, true, true, false, true, true, true, true, false, false, false, false]) rfl ⟨⟨hS267.hasK hl265, hS267.hasObj (.tail _ (.head _))⟩, (fun _ => trivial), by decide⟩ ?_)
       refine wg_many (l := [5, 12]) (by kernel_rfl) rfl ⟨⟨_, rfl, ?_⟩, ⟨_, rfl, ?_⟩, trivial⟩
       ·refine wl_append (t := tGDoc) wn rfl Try.underlying23 tf49 rfl rfl rfl rfl rfl hs266 (SliceAt.mono hl265 hs257) hx211 hS267 ?_
        intro a268 n269 c270 w271 K272 hl273 hs274 hS275
        refine wl_nil (qe_held (listed' := #[true, true, true, true, true, true, true, true, true, true, false, false, false, false]) rfl ⟨⟨hS275.hasK (hl265.trans hl273), hS275.hasObj (.tail _ (.head _))⟩, (fun _ => trivial), by decide⟩ ?_)
        refine wg_many (l := [10, 12]) (by kernel_rfl) rfl ⟨⟨_, rfl, ?_⟩, ⟨_, rfl, ?_⟩, trivial⟩
        ·refine wl_append (t := tGDoc) wn rfl Try.underlying23 tf49 rfl rfl rfl rfl rfl hs274 (SliceAt.mono (hl265.trans hl273) hs261) hx222 hS275 ?_
         intro a276 n277 c278 w279 K280 hl281 hs282 hS283
         refine wl_nil (qe_held (listed' := #[true, true, true, true, true, true, true, true, true, true, true, false, false, false]) rfl ⟨⟨hS283.hasK ((hl265.trans hl273).trans hl281), hS283.hasObj (.tail _ (.head _))⟩, (fun _ => trivial), by decide⟩ ?_)
         refine wg_many (l := [11, 12]) (by kernel_rfl) rfl ⟨⟨_, rfl, ?_⟩, ⟨_, rfl, ?_⟩, trivial⟩
         ·refine wl_call wn rfl (rt_call (vs := [.agg #[.slice a26 n27 c28, .slice a30 n31 c32], .slice a276 n277 c278]) co21 rfl) ((ok_impl_SegOf F) hS283.enter0 (SliceAt.mono ((((hS51.le.trans hl72).trans hl265).trans hl273).trans hl281) hs29) (SliceAt.mono ((((hS51.le.trans hl72).trans hl265).trans hl273).trans hl281) hs33) hs282 hx233) ?_
          rintro e295 w285 ⟨a287, n288, c289, a291, n292, c293, K284, rfl, hS286, hs290, hs294⟩
          refine ⟨_, rfl, ?_⟩
          have hS296 : SH _ _ _ _ _ [_, _, _, _] := SH.call0 hS283 hS286
          refine wl_nil (qe_held (listed' := #[true, true, true, true, true, true, true, true, true, true, true, true, false, false]) rfl ⟨⟨hS296.hasK (((hl265.trans hl273).trans hl281).trans hS286.le), hS296.hasObj (.tail _ (.tail _ (.head _)))⟩, (fun _ => trivial), by decide⟩ ?_)
          refine wg_one (i := 12) (by kernel_rfl) rfl ?_
          refine wl_alloc wn rfl tf42 hS296 ?_
          intro g297 w298 hS299
          have hS300 : SH _ _ _ _ _ [obj g297 [.slice none 0 0, .slice none 0 0] 42, _, _, _, _] := hS299
          refine wl_nil (qe_held (listed' := #[true, true, true, true, true, true, true, true, true, true, true, true, true, false]) rfl ⟨⟨hS300.hasK (((hl265.trans hl273).trans hl281).trans hS286.le), hS300.hasObj (.tail _ (.tail _ (.tail _ (.head _))))⟩, (fun _ => trivial), by decide⟩ ?_)
          refine wg_one (i := 13) (by kernel_rfl) rfl ?_
          refine wl_store (cs' := [.slice a287 n288 c289, .slice a291 n292 c293]) (v := .agg #[.slice a287 n288 c289, .slice a291 n292 c293]) wn tf42 rfl rfl rfl (by simp [Value.cells, Value.oneCell']) hS300 rfl rfl ?_
          intro w301 hS302
          refine wl_nil (qe_held (listed' := #[true, true, true, true, true, true, true, true, true, true, true, true, true, true]) rfl ⟨⟨hS302.hasK (((hl265.trans hl273).trans hl281).trans hS286.le), hS302.hasObj (.tail _ (.tail _ (.tail _ (.head _))))⟩, (fun _ => trivial), by decide⟩ ?_)
          refine wg_done (by kernel_rfl) ?_
          obtain rfl := oi h234
          have hS303 : SH _ _ _ _ _ [_, _, _] := SH.sublist hS302 (.cons_cons _ (.cons _ (.cons _ (.cons_cons _ (.cons_cons _ .slnil)))))
          exact qe_mid' ⟨g297, a287, n288, c289, a291, n292, c293, K284, rfl, hS303, (((hl265.trans hl273).trans hl281).trans hS286.le), hs290, hs294⟩ ⟨rfl, rfl, rfl, rfl, rfl, trivial⟩
         ·refine wl_alloc wn rfl tf42 hS283 ?_
          intro g304 w305 hS306
          have hS307 : SH _ _ _ _ _ [obj g304 [.slice none 0 0, .slice none 0 0] 42, _, _, _] := hS306
          refine wl_nil (qe_held (listed' := #[true, true, true, true, true, true, true, true, true, true, true, false, true, false]) rfl ⟨⟨hS307.hasK ((hl265.trans hl273).trans hl281), hS307.hasObj (.tail _ (.tail _ (.head _)))⟩, (fun _ => trivial), by decide⟩ ?_)
          refine wg_one (i := 11) (by kernel_rfl) rfl ?_
          refine wl_call wn rfl (rt_call (vs := [.agg #[.slice a26 n27 c28, .slice a30 n31 c32], .slice a276 n277 c278]) co21 rfl) ((ok_impl_SegOf F) hS307.enter0 (SliceAt.mono ((((hS51.le.trans hl72).trans hl265).trans hl273).trans hl281) hs29) (SliceAt.mono ((((hS51.le.trans hl72).trans hl265).trans hl273).trans hl281) hs33) hs282 hx233) ?_
          rintro e319 w309 ⟨a311, n312, c313, a315, n316, c317, K308, rfl, hS310, hs314, hs318⟩
          refine ⟨_, rfl, ?_⟩
          have hS320 : SH _ _ _ _ _ [_, _, _, _, _] := SH.call0 hS307 hS310
          refine wl_nil (qe_held (listed' := #[true, true, true, true, true, true, true, true, true, true, true, true, true, false]) rfl ⟨⟨hS320.hasK (((hl265.trans hl273).trans hl281).trans hS310.le), hS320.hasObj (.tail _ (.tail _ (.tail _ (.head _))))⟩, (fun _ => trivial), by decide⟩ ?_)
          refine wg_one (i := 13) (by kernel_rfl) rfl ?_
          have hS321 : SH _ _ _ _ _ [_, _, _, _, _] := SH.front (p := [_]) hS320
          refine wl_store (cs' := [.slice a311 n312 c313, .slice a315 n316 c317]) (v := .agg #[.slice a311 n312 c313, .slice a315 n316 c317]) wn tf42 rfl rfl rfl (by simp [Value.cells, Value.oneCell']) hS321 rfl rfl ?_
          intro w322 hS323
          refine wl_nil (qe_held (listed' := #[true, true, true, true, true, true, true, true, true, true, true, true, true, true]) rfl ⟨⟨hS323.hasK (((hl265.trans hl273).trans hl281).trans hS310.le), hS323.hasObj (.tail _ (.tail _ (.tail _ (.head _))))⟩, (fun _ => trivial), by decide⟩ ?_)
          refine wg_done (by kernel_rfl) ?_
          obtain rfl := oi h234
          have hS324 : SH _ _ _ _ _ [_, _, _] := SH.sublist hS323 (.cons_cons _ (.cons _ (.cons _ (.cons_cons _ (.cons_cons _ .slnil)))))
          exact qe_mid' ⟨g304, a311, n312, c313, a315, n316, c317, K308, rfl, hS324, (((hl265.trans hl273).trans hl281).trans hS310.le), hs314, hs318⟩ ⟨rfl, rfl, rfl, rfl, rfl, trivial⟩
        ·refine wl_alloc wn rfl tf42 hS275 ?_
         intro g325 w326 hS327
         have hS328 : SH _ _ _ _ _ [obj g325 [.slice none 0 0, .slice none 0 0] 42, _, _, _] := hS327
         refine wl_nil (qe_held (listed' := #[true, true, true, true, true, true, true, true, true, true, false, false, true, false]) rfl ⟨⟨hS328.hasK (hl265.trans hl273), hS328.hasObj (.tail _ (.tail _ (.head _)))⟩, (fun _ => trivial), by decide⟩ ?_)
         refine wg_one (i := 10) (by kernel_rfl) rfl ?_
         have hS329 : SH _ _ _ _ _ [_, _, _, _] := SH.front (p := [_]) hS328
         refine wl_append (t := tGDoc) wn rfl Try.underlying23 tf49 rfl rfl rfl rfl rfl hs274 (SliceAt.mono (hl265.trans hl273) hs261) hx222 hS329 ?_
         intro a330 n331 c332 w333 K334 hl335 hs336 hS337
         refine wl_nil (qe_held (listed' := #[true, true, true, true, true, true, true, true, true, true, true, false, true, false]) rfl ⟨⟨hS337.hasK ((hl265.trans hl273).trans hl335), hS337.hasObj (.tail _ (.tail _ (.head _)))⟩, (fun _ => trivial), by decide⟩ ?_)
         refine wg_one (i := 11) (by kernel_rfl) rfl ?_
         refine wl_call wn rfl (rt_call (vs := [.agg #[.slice a26 n27 c28, .slice a30 n31 c32], .slice a330 n331 c332]) co21 rfl) ((ok_impl_SegOf F) hS337.enter0 (SliceAt.mono ((((hS51.le.trans hl72).trans hl265).trans hl273).trans hl335) hs29) (SliceAt.mono ((((hS51.le.trans hl72).trans hl265).trans hl273).trans hl335) hs33) hs336 hx233) ?_
         rintro e349 w339 ⟨a341, n342, c343, a345, n346, c347, K338, rfl, hS340, hs344, hs348⟩
         refine ⟨_, rfl, ?_⟩
         have hS350 : SH _ _ _ _ _ [_, _, _, _, _] := SH.call0 hS337 hS340
         refine wl_nil (qe_held (listed' := #[true, true, true, true, true, true, true, true, true, true, true, true, true, false]) rfl ⟨⟨hS350.hasK (((hl265.trans hl273).trans hl335).trans hS340.le), hS350.hasObj (.tail _ (.tail _ (.tail _ (.head _))))⟩, (fun _ => trivial), by decide⟩ ?_)
         refine wg_one (i := 13) (by kernel_rfl) rfl ?_
         have hS351 : SH _ _ _ _ _ [_, _, _, _, _] := SH.front (p := [_, _]) hS350
         refine wl_store (cs' := [.slice a341 n342 c343, .slice a345 n346 c347]) (v := .agg #[.slice a341 n342 c343, .slice a345 n346 c347]) wn tf42 rfl rfl rfl (by simp [Value.cells, Value.oneCell']) hS351 rfl rfl ?_
         intro w352 hS353
         refine wl_nil (qe_held (listed' := #[true, true, true, true, true, true, true, true, true, true, true, true, true, true]) rfl ⟨⟨hS353.hasK (((hl265.trans hl273).trans hl335).trans hS340.le), hS353.hasObj (.tail _ (.tail _ (.tail _ (.head _))))⟩, (fun _ => trivial), by decide⟩ ?_)
         refine wg_done (by kernel_rfl) ?_
         obtain rfl := oi h234
         have hS354 : SH _ _ _ _ _ [_, _, _] := SH.sublist hS353 (.cons_cons _ (.cons _ (.cons _ (.cons_cons _ (.cons_cons _ .slnil)))))
         exact qe_mid' ⟨g325, a341, n342, c343, a345, n346, c347, K338, rfl, hS354, (((hl265.trans hl273).trans hl335).trans hS340.le), hs344, hs348⟩ ⟨rfl, rfl, rfl, rfl, rfl, trivial⟩
       ·refine wl_alloc wn rfl tf42 hS267 ?_
        intro g355 w356 hS357
        have hS358 : SH _ _ _ _ _ [obj g355 [.slice none 0 0, .slice none 0 0] 42, _, _, _] := hS357
        refine wl_nil (qe_held (listed' := #[true, true, true, true, true, false, true, true, true, true, false, false, true, false]) rfl ⟨⟨hS358.hasK hl265, hS358.hasObj (.tail _ (.tail _ (.head _)))⟩, (fun _ => trivial), by decide⟩ ?_)
        refine wg_one (i := 5) (by kernel_rfl) rfl ?_
        have hS359 : SH _ _ _ _ _ [_, _, _, _] := SH.front (p := [_]) hS358
        refine wl_append (t := tGDoc) wn rfl Try.underlying23 tf49 rfl rfl rfl rfl rfl hs266 (SliceAt.mono hl265 hs257) hx211 hS359 ?_
        intro a360 n361 c362 w363 K364 hl365 hs366 hS367
        refine wl_nil (qe_held (listed' := #[true, true, true, true, true, true, true, true, true, true, false, false, true, false]) rfl ⟨⟨hS367.hasK (hl265.trans hl365), hS367.hasObj (.tail _ (.tail _ (.head _)))⟩, (fun _ => trivial), by decide⟩ ?_)
        refine wg_one (i := 10) (by kernel_rfl) rfl ?_
        refine wl_append (t := tGDoc) wn rfl Try.underlying23 tf49 rfl rfl rfl rfl rfl hs366 (SliceAt.mono (hl265.trans hl365) hs261) hx222 hS367 ?_
        intro a368 n369 c370 w371 K372 hl373 hs374 hS375
        refine wl_nil (qe_held (listed' := #[true, true, true, true, true, true, true, true, true, true, true, false, true, false]) rfl ⟨⟨hS375.hasK ((hl265.trans hl365).trans hl373), hS375.hasObj (.tail _ (.tail _ (.head _)))⟩, (fun _ => trivial), by decide⟩ ?_)
        refine wg_one (i := 11) (by kernel_rfl) rfl ?_
        refine wl_call wn rfl (rt_call (vs := [.agg #[.slice a26 n27 c28, .slice a30 n31 c32], .slice a368 n369 c370]) co21 rfl) ((ok_impl_SegOf F) hS375.enter0 (SliceAt.mono ((((hS51.le.trans hl72).trans hl265).trans hl365).trans hl373) hs29) (SliceAt.mono ((((hS51.le.trans hl72).trans hl265).trans hl365).trans hl373) hs33) hs374 hx233) ?_
        rintro e387 w377 ⟨a379, n380, c381, a383, n384, c385, K376, rfl, hS378, hs382, hs386⟩
        refine ⟨_, rfl, ?_⟩
        have hS388 : SH _ _ _ _ _ [_, _, _, _, _] := SH.call0 hS375 hS378
        refine wl_nil (qe_held (listed' := #[true, true, true, true, true, true, true, true, true, true, true, true, true, false]) rfl ⟨⟨hS388.hasK (((hl265.trans hl365).trans hl373).trans hS378.le), hS388.hasObj (.tail _ (.tail _ (.tail _ (.head _))))⟩, (fun _ => trivial), by decide⟩ ?_)
        refine wg_one (i := 13) (by kernel_rfl) rfl ?_
        have hS389 : SH _ _ _ _ _ [_, _, _, _, _] := SH.front (p := [_, _]) hS388
        refine wl_store (cs' := [.slice a379 n380 c381, .slice a383 n384 c385]) (v := .agg #[.slice a379 n380 c381, .slice a383 n384 c385]) wn tf42 rfl rfl rfl (by simp [Value.cells, Value.oneCell']) hS389 rfl rfl ?_
        intro w390 hS391
        refine wl_nil (qe_held (listed' := #[true, true, true, true, true, true, true, true, true, true, true, true, true, true]) rfl ⟨⟨hS391.hasK (((hl265.trans hl365).trans hl373).trans hS378.le), hS391.hasObj (.tail _ (.tail _ (.tail _ (.head _))))⟩, (fun _ => trivial), by decide⟩ ?_)
        refine wg_done (by kernel_rfl) ?_
        obtain rfl := oi h234
        have hS392 : SH _ _ _ _ _ [_, _, _] := SH.sublist hS391 (.cons_cons _ (.cons _ (.cons _ (.cons_cons _ (.cons_cons _ .slnil)))))
        exact qe_mid' ⟨g355, a379, n380, c381, a383, n384, c385, K376, rfl, hS392, (((hl265.trans hl365).trans hl373).trans hS378.le), hs382, hs386⟩ ⟨rfl, rfl, rfl, rfl, rfl, trivial⟩
      ·refine wl_alloc wn rfl tf42 hS189 ?_
       intro g393 w394 hS395
       have hS396 : SH _ _ _ _ _ [obj g393 [.slice none 0 0, .slice none 0 0] 42, _, _] := hS395
       refine wl_nil (qe_held (listed' := #[true, false, true, true, true, false, true, true, true, true, false, false, true, false]) rfl ⟨⟨hS396.hasK (KLe.refl _), hS396.hasObj (.tail _ (.head _))⟩, (fun _ => trivial), by decide⟩ ?_)
       refine wg_one (i := 1) (by kernel_rfl) rfl ?_
       refine wl_buildSlice0 tGDoc wn rfl Try.underlying23 tf49 hS396 ?_
       intro a397 w398 K399 hl400 hs401 hS402
       refine wl_nil (qe_held (listed' := #[true, true, true, true, true, false, true, true, true, true, false, false, true, false]) rfl ⟨⟨hS402.hasK hl400, hS402.hasObj (.tail _ (.tail _ (.head _)))⟩, (fun _ => trivial), by decide⟩ ?_)
       refine wg_one (i := 5) (by kernel_rfl) rfl ?_
       refine wl_append (t := tGDoc) wn rfl Try.underlying23 tf49 rfl rfl rfl rfl rfl hs401 (SliceAt.mono hl400 hs257) hx211 hS402 ?_
       intro a403 n404 c405 w406 K407 hl408 hs409 hS410
       refine wl_nil (qe_held (listed' := #[true, true, true, true, true, true, true, true, true, true, false, false, true, false]) rfl ⟨⟨hS410.hasK (hl400.trans hl408), hS410.hasObj (.tail _ (.tail _ (.head _)))⟩, (fun _ => trivial), by decide⟩ ?_)
       refine wg_one (i := 10) (by kernel_rfl) rfl ?_
       refine wl_append (t := tGDoc) wn rfl Try.underlying23 tf49 rfl rfl rfl rfl rfl hs409 (SliceAt.mono (hl400.trans hl408) hs261) hx222 hS410 ?_
       intro a411 n412 c413 w414 K415 hl416 hs417 hS418
       refine wl_nil (qe_held (listed' := #[true, true, true, true, true, true, true, true, true, true, true, false, true, false]) rfl ⟨⟨hS418.hasK ((hl400.trans hl408).trans hl416), hS418.hasObj (.tail _ (.tail _ (.head _)))⟩, (fun _ => trivial), by decide⟩ ?_)
       refine wg_one (i := 11) (by kernel_rfl) rfl ?_
       refine wl_call wn rfl (rt_call (vs := [.agg #[.slice a26 n27 c28, .slice a30 n31 c32], .slice a411 n412 c413]) co21 rfl) ((ok_impl_SegOf F) hS418.enter0 (SliceAt.mono ((((hS51.le.trans hl72).trans hl400).trans hl408).trans hl416) hs29) (SliceAt.mono ((((hS51.le.trans hl72).trans hl400).trans hl408).trans hl416) hs33) hs417 hx233) ?_
       rintro e430 w420 ⟨a422, n423, c424, a426, n427, c428, K419, rfl, hS421, hs425, hs429⟩
       refine ⟨_, rfl, ?_⟩
       have hS431 : SH _ _ _ _ _ [_, _, _, _, _] := SH.call0 hS418 hS421
       refine wl_nil (qe_held (listed' := #[true, true, true, true, true, true, true, true, true, true, true, true, true, false]) rfl ⟨⟨hS431.hasK (((hl400.trans hl408).trans hl416).trans hS421.le), hS431.hasObj (.tail _ (.tail _ (.tail _ (.head _))))⟩, (fun _ => trivial), by decide⟩ ?_)
       refine wg_one (i := 13) (by kernel_rfl) rfl ?_
       have hS432 : SH _ _ _ _ _ [_, _, _, _, _] := SH.front (p := [_, _]) hS431
       refine wl_store (cs' := [.slice a422 n423 c424, .slice a426 n427 c428]) (v := .agg #[.slice a422 n423 c424, .slice a426 n427 c428]) wn tf42 rfl rfl rfl (by simp [Value.cells, Value.oneCell']) hS432 rfl rfl ?_
       intro w433 hS434
       refine wl_nil (qe_held (listed' := #[true, true, true, true, true, true, true, true, true, true, true, true, true, true]) rfl ⟨⟨hS434.hasK (((hl400.trans hl408).trans hl416).trans hS421.le), hS434.hasObj (.tail _ (.tail _ (.tail _ (.head _))))⟩, (fun _ => trivial), by decide⟩ ?_)
       refine wg_done (by kernel_rfl) ?_
       obtain rfl := oi h234
       have hS435 : SH _ _ _ _ _ [_, _, _] := SH.sublist hS434 (.cons_cons _ (.cons _ (.cons _ (.cons_cons _ (.cons_cons _ .slnil)))))
       exact qe_mid' ⟨g393, a422, n423, c424, a426, n427, c428, K419, rfl, hS435, (((hl400.trans hl408).trans hl416).trans hS421.le), hs425, hs429⟩ ⟨rfl, rfl, rfl, rfl, rfl, trivial⟩
     ·rintro _ w177 ⟨g179, a180, n181, c182, a184, n185, c186, K175, rfl, hS178, hl176, hs183, hs187⟩
      refine qr ?_
      refine wl_val wn rfl (rv_assign (v := .int .i64 0) rfl) ?_
      refine nsr ?_
      refine wl_val wn rfl (rv_assign (v := .int .i64 0) rfl) ?_
      refine nq ?_
      obtain ⟨o436, h437, h438⟩ := ob h174
      refine wc_cutg (fun E' w' => ∃ (s439 : Int) (K440 : KMap), o436 = .inl s439 ∧ E' = [(9, .pointer (some ⟨g179, 0, none⟩)), (10, .int .i64 s439)] ∧ SH w K [] w' K440 [obj g179 [.slice a180 n181 c182, .slice a184 n185 c186] 42] ∧ KLe K175 K440 ∧ rng64 s439) ?_ ?_
      ·refine wc_block ?_
       obtain ⟨r446, h447, h448⟩ := ob h437
       refine wc_while' (fun (s445 : Int × Int) E' w' => ∃ (K449 : KMap), E' = [(5, .pointer (some ⟨g40, 0, none⟩)), (6, .slice a34 n35 c36), (7, .pointer (some ⟨g62, 0, none⟩)), (8, .int .i64 x169), (9, .pointer (some ⟨g179, 0, none⟩)), (10, .int .i64 s445.1), (11, .int .i64 s445.2)] ∧ SH w K [] w' K449 [obj g179 [.slice a180 n181 c182, .slice a184 n185 c186] 42, obj g40 [.slice a26 n27 c28, .slice a30 n31 c32] 39, obj g62 [.slice a52 n53 c54, .slice a56 n57 c58] 42] ∧ KLe K175 K449 ∧ rng64 s445.1 ∧ rng64 s445.2) h447 ⟨K175, rfl, hS178, (KLe.refl _), (by decide : rng64 0), (by decide : rng64 0)⟩ ⟨rfl, rfl, rfl, rfl, rfl, rfl, rfl, trivial⟩ ?_
       rintro s445 _ w451 r455 h456 hx457 ⟨K449, rfl, hS452, hl450, hr453, hr454⟩
       refine wc_seq ?_
       refine sr ?_
       refine vm rfl rfl ?_
       refine wl_val wn rfl (rv_fieldAddr ff42_1 rfl) ?_
       refine wl_val wn rfl (rv_loadm1 tf40 rfl (.tail _ (.tail _ (.head _))) hS452 rfl) ?_
       refine wl_val wn rfl (rv_len (t := tGEntry) Try.underlying40 rfl (SliceAt.mono ((hl72.trans hl176).trans hl450) hs59)) ?_
       refine wl_val wn rfl (rv_lss rfl rfl) ?_
       refine nq ?_
       refine wc_cond rfl (fun hb458 => ?_) (fun hb458 => ?_)
       ·have h459 := cond_t hb458 h456
        refine wc_skip ?_
        refine qs ?_
        refine wc_block ?_
        refine sr ?_
        refine wl_val wn rfl (rv_fieldAddr ff42_1 rfl) ?_
        refine wl_val wn rfl (rv_loadm1 tf40 rfl (.tail _ (.tail _ (.head _))) hS452 rfl) ?_
        refine vm rfl rfl ?_
        obtain ⟨x460, hx461, h462⟩ := ob h459
        refine wl_indexAddr (t := tGEntry) wn rfl Try.underlying40 tf60 rfl rfl (SliceAt.mono ((hl72.trans hl176).trans hl450) hs59) hx461 ?_
        intro b463 o464 u465 hu466 ha467
        obtain ⟨a470, n471, c472, rfl, hl468, hl469, hs473⟩ := hu466
        have ha474 : AtK _ b463 o464 [sv x460.Field, sv x460.Term, .slice a470 n471 c472] := ha467
        refine wl_val wn rfl (rv_loadS (cs := [sv x460.Field, sv x460.Term, .slice a470 n471 c472]) tf60 rfl hS452 ha474 rfl) ?_
        refine wl_alloc wn rfl tf60 hS452 ?_
        intro g475 w476 hS477
        have hS478 : SH _ _ _ _ _ [obj g475 [sv [], sv [], .slice none 0 0] 60, _, _, _] := hS477
        refine wl_store (cs' := [sv x460.Field, sv x460.Term, .slice a470 n471 c472]) (v := .agg #[sv x460.Field, sv x460.Term, .slice a470 n471 c472]) wn tf60 rfl rfl rfl (by simp [Value.cells, Value.oneCell', sv]) hS478 rfl rfl ?_
        intro w479 hS480
        refine nr ?_
        refine wl_buildSlice0 tGPost wn rfl Try.underlying58 tf64 hS480 ?_
        intro a481 w482 K483 hl484 hs485 hS486
        refine va rfl rfl ?_
        refine nsr ?_
        refine wl_val wn rfl (rv_assign (v := .int .i64 0) rfl) ?_
        refine nq ?_
        obtain ⟨o487, h488, h489⟩ := ob h462
        refine wc_cutg (fun E' w' => ∃ (a494 : Option Addr) (n495 c496 : Nat) (K490 : KMap), E' = [(5, .pointer (some ⟨g40, 0, none⟩)), (6, .slice a34 n35 c36), (7, .pointer (some ⟨g62, 0, none⟩)), (8, .int .i64 x169), (9, .pointer (some ⟨g179, 0, none⟩)), (10, .int .i64 s445.1), (11, .int .i64 s445.2), (12, .pointer (some ⟨g475, 0, none⟩)), (13, .slice a494 n495 c496)] ∧ SH w K [] w' K490 [obj g179 [.slice a180 n181 c182, .slice a184 n185 c186] 42, obj g40 [.slice a26 n27 c28, .slice a30 n31 c32] 39, obj g62 [.slice a52 n53 c54, .slice a56 n57 c58] 42, obj g475 [sv x460.Field, sv x460.Term, .slice a470 n471 c472] 60, tail (.slice a494 n495 c496) 64 2] ∧ KLe K483 K490 ∧ SliceAt tGPost K490 a494 n495 c496 o487) ?_ ?_
        ·refine wc_block ?_
         obtain ⟨r499, h500, h501⟩ := ob h488
         have hS511 : SH _ _ _ _ _ [_, _, _, _, _] := SH.front (p := [_]) hS486
         have hS512 : SH _ _ _ _ _ [_, _, _, _, _] := SH.front (p := [_, _, _, _]) hS511
         have hS513 : SH _ _ _ _ _ [_, _, _, _, _] := SH.front (p := [_, _, _, _]) hS512
         have hS514 : SH _ _ _ _ _ [_, _, _, _, _] := SH.front (p := [_, _, _, _]) hS513
         refine wc_while' (fun (s498 : (List GPost) × Int) E' w' => ∃ (a506 : Option Addr) (n507 c508 : Nat) (K502 : KMap), E' = [(5, .pointer (some ⟨g40, 0, none⟩)), (6, .slice a34 n35 c36), (7, .pointer (some ⟨g62, 0, none⟩)), (8, .int .i64 x169), (9, .pointer (some ⟨g179, 0, none⟩)), (10, .int .i64 s445.1), (11, .int .i64 s445.2), (12, .pointer (some ⟨g475, 0, none⟩)), (13, .slice a506 n507 c508), (14, .int .i64 s498.2)] ∧ SH w K [] w' K502 [obj g179 [.slice a180 n181 c182, .slice a184 n185 c186] 42, obj g40 [.slice a26 n27 c28, .slice a30 n31 c32] 39, obj g62 [.slice a52 n53 c54, .slice a56 n57 c58] 42, obj g475 [sv x460.Field, sv x460.Term, .slice a470 n471 c472] 60, tail (.slice a506 n507 c508) 64 2] ∧ KLe K483 K502 ∧ SliceAt tGPost K502 a506 n507 c508 s498.1 ∧ rng64 s498.2) h500 ⟨a481, 0, 0, K483, rfl, hS514, (KLe.refl _), hs485, (by decide : rng64 0)⟩ ⟨rfl, rfl, rfl, rfl, rfl, rfl, rfl, rfl, rfl, rfl, trivial⟩ ?_
         rintro s498 _ w504 r515 h516 hx517 ⟨a506, n507, c508, K502, rfl, hS505, hl503, hs509, hr510⟩
         refine wc_seq ?_
         refine sr ?_
         refine vm rfl rfl ?_
         refine wl_val wn rfl (rv_fieldAddr ff60_2 rfl) ?_
         refine wl_val wn rfl (rv_loadm1 tf58 rfl (.tail _ (.tail _ (.tail _ (.head _)))) hS505 rfl) ?_
         refine wl_val wn rfl (rv_len (t := tGPost) Try.underlying58 rfl (SliceAt.mono (hl484.trans hl503) hs473)) ?_
         refine wl_val wn rfl (rv_lss rfl rfl) ?_
         refine nq ?_
         refine wc_cond rfl (fun hb518 => ?_) (fun hb518 => ?_)
         ·have h519 := cond_t hb518 h516
          refine wc_skip ?_
          refine qs ?_
          refine wc_block ?_
          refine wc_seq ?_
          refine wc_quiet mixed (by kernel_rfl) hS505 ?_
          refine wq_val wn rfl (fun _ _ => (rv_fieldAddr ff60_2 rfl)) ?_
          refine wq_val wn rfl (rq_loadm1 tf58 rfl (.tail _ (.tail _ (.tail _ (.head _)))) rfl) ?_
          refine qm rfl rfl ?_
          obtain ⟨x520, hx521, h522⟩ := ob h519
          refine wq_indexAddr (t := tGPost) wn rfl Try.underlying58 tf64 rfl rfl (SliceAt.mono (hl484.trans hl503) hs473) hx521 ?_
          intro b523 o524 u525 hu526 ha527
          obtain ⟨a529, n530, c531, rfl, hr528, hs532⟩ := hu526
          have ha533 : AtK _ b523 o524 [.int .i64 x520.Doc, .slice a529 n530 c531] := ha527
          refine wq_val wn rfl (fun _ _ => (rv_fieldAddr ff64_0 rfl)) ?_
          refine wq_val wn rfl (rq_load1 tf3 rfl (ha533 0 _ rfl)) ?_
          refine qm rfl rfl ?_
          refine qm rfl rfl ?_
          obtain ⟨x534, hx535, h536⟩ := ob h522
          refine wq_indexAddr (t := tGDoc) wn rfl Try.underlying23 tf49 rfl rfl (SliceAt.mono (((((hS51.le.trans hl72).trans hl176).trans hl450).trans hl484).trans hl503) hs37) hx535 ?_
          intro b537 o538 u539 hu540 ha541
          obtain ⟨a543, n544, c545, a547, n548, c549, rfl, hr542, hs546, hs550⟩ := hu540
          have ha551 : AtK _ b537 o538 [.int .i64 x534.Id, .slice a543 n544 c545, .slice a547 n548 c549] := ha541
          refine wq_val wn rfl (fun _ _ => (rv_fieldAddr ff49_0 rfl)) ?_
          refine wq_val wn rfl (rq_load1 tf3 rfl (ha551 0 _ rfl)) ?_
          refine wq_val wn rfl (fun _ _ => (rv_neq rfl rfl)) ?_
          refine wq_nil ?_
          rintro w553 ⟨K552, hS554, hl555⟩
          refine qe_seq ?_
          refine wc_cond rfl (fun hb556 => ?_) (fun hb556 => ?_)
          ·have h557 := cond_t hb556 h536
           refine wc_region ?_
           refine vm rfl rfl ?_
           refine wl_val wn rfl (rv_fieldAddr ff60_2 rfl) ?_
           refine wl_val wn rfl (rv_loadm1 tf58 rfl (.tail _ (.tail _ (.tail _ (.head _)))) hS554 rfl) ?_
           refine vm rfl rfl ?_
           obtain ⟨x558, hx559, h560⟩ := ob h557
           refine wl_indexAddr (t := tGPost) wn rfl Try.underlying58 tf64 rfl rfl (SliceAt.mono ((hl484.trans hl503).trans hl555) hs473) hx559 ?_
           intro b561 o562 u563 hu564 ha565
           obtain ⟨a567, n568, c569, rfl, hr566, hs570⟩ := hu564
           have ha571 : AtK _ b561 o562 [.int .i64 x558.Doc, .slice a567 n568 c569] := ha565
           refine wl_val wn rfl (rv_loadS (cs := [.int .i64 x558.Doc, .slice a567 n568 c569]) tf64 rfl hS554 ha571 rfl) ?_
           refine wl_buildSlice (t := tGPost) (n := 1) (pv := [(0, .agg #[.int .i64 x558.Doc, .slice a567 n568 c569])]) (cs := [.int .i64 x558.Doc, .slice a567 n568 c569]) (xs := [x558]) wn rfl Try.underlying58 tf64 rfl rfl rfl (by kernel_rfl) rfl rfl (lit_cons (u := .agg #[.int .i64 x558.Doc, .slice a567 n568 c569]) (z := x558) ⟨a567, n568, c569, rfl, hr566, hs570⟩ lit_nil) hS554 ?_
           intro a572 w573 K574 hl575 hs576 hS577
           have hS578 : SH _ _ _ _ _ [_, _, _, _, _, _] := SH.front (p := [_, _, _, _, _]) hS577
           obtain ⟨x579, hx580, h581⟩ := ob h560
           refine wl_append (t := tGPost) wn rfl Try.underlying58 tf64 rfl rfl rfl rfl rfl (SliceAt.mono (hl555.trans hl575) hs509) hs576 hx580 hS578 ?_
           intro a582 n583 c584 w585 K586 hl587 hs588 hS589
           refine va rfl rfl ?_
           refine nb ?_
           refine qe_seq ?_
           refine wc_region ?_
           refine vm rfl rfl ?_
           refine wl_val wn rfl (rv_add rfl rfl) ?_
           refine va rfl rfl ?_
           refine wl_nil ?_
           obtain rfl := oi h581
           have hS590 : SH _ _ _ _ _ [_, _, _, _, _, _] := SH.front (p := [_, _, _, _, _]) hS589
           have hS591 : SH _ _ _ _ _ [_, _, _, _, _, _] := SH.front (p := [_, _, _, _, _]) hS590
           have hS592 : SH _ _ _ _ _ [_, _, _, _, _, _] := SH.front (p := [_, _, _, _, _]) hS591
           have hS593 : SH _ _ _ _ _ [_, _, _, _, _, _] := SH.front (p := [_, _, _, _, _]) hS592
           have hS594 : SH _ _ _ _ _ [_, _, _, _, _] := SH.sublist hS593 (.cons_cons _ (.cons_cons _ (.cons_cons _ (.cons_cons _ (.cons_cons _ (.cons _ .slnil))))))
           exact qe_mid' ⟨_, rfl, a582, n583, c584, K586, rfl, hS594, (((hl503.trans hl555).trans hl575).trans hl587), hs588, (w64_rng _)⟩ ⟨rfl, rfl, rfl, rfl, rfl, rfl, rfl, rfl, rfl, rfl, trivial⟩
          ·have h557 := cond_f hb556 h536
           refine wc_skip ?_
           refine qe_block ?_
           refine qe_seq ?_
           refine wc_region ?_
           refine vm rfl rfl ?_
           refine wl_val wn rfl (rv_add rfl rfl) ?_
           refine va rfl rfl ?_
           refine wl_nil ?_
           obtain rfl := oi h557
           exact qe_mid' ⟨_, rfl, a506, n507, c508, K552, rfl, hS554, (hl503.trans hl555), (SliceAt.mono hl555 hs509), (w64_rng _)⟩ ⟨rfl, rfl, rfl, rfl, rfl, rfl, rfl, rfl, rfl, rfl, trivial⟩
         ·have h519 := cond_f hb518 h516
          refine wc_exit ?_
          refine qe_then_exit ?_
          refine qe_then_exit ?_
          obtain rfl := oi h519
          have e595 := hx517 _ rfl
          subst e595
          refine qe_block_eq ?_
          obtain rfl := oi h501
          exact qe_mid' ⟨a506, n507, c508, K502, rfl, hS505, hl503, hs509⟩ ⟨rfl, rfl, rfl, rfl, rfl, rfl, rfl, rfl, rfl, trivial⟩
        ·rintro _ w492 ⟨a494, n495, c496, K490, rfl, hS493, hl491, hs497⟩
         refine qs ?_
         refine sr ?_
         refine wl_val wn rfl (rv_loadmS (ds := [.slice a26 n27 c28, .slice a30 n31 c32]) tf39 rfl (.tail _ (.head _)) hS493 rfl rfl) ?_
         refine wl_val wn rfl (rv_loadmS (ds := [.slice a180 n181 c182, .slice a184 n185 c186]) tf42 rfl (.head _) hS493 rfl rfl) ?_
         refine wl_val wn rfl (rv_fieldAddr ff60_0 rfl) ?_
         refine wl_val wn rfl (rv_loadm1 tf9 rfl (.tail _ (.tail _ (.tail _ (.head _)))) hS493 rfl) ?_
         refine wl_val wn rfl (rv_fieldAddr ff60_1 rfl) ?_
         refine wl_val wn rfl (rv_loadm1 tf9 rfl (.tail _ (.tail _ (.tail _ (.head _)))) hS493 rfl) ?_
         obtain ⟨r596, hx597, h598⟩ := ob h489
         refine wl_call wn rfl (rt_call (vs := [.agg #[.slice a26 n27 c28, .slice a30 n31 c32], .agg #[.slice a180 n181 c182, .slice a184 n185 c186], sv x460.Field, sv x460.Term]) co28 rfl) ((ok_impl_SegPosts F) hS493.enter0 (SliceAt.mono (((((hS51.le.trans hl72).trans hl176).trans hl450).trans hl484).trans hl491) hs29) (SliceAt.mono (((((hS51.le.trans hl72).trans hl176).trans hl450).trans hl484).trans hl491) hs33) (SliceAt.mono ((hl450.trans hl484).trans hl491) hs183) (SliceAt.mono ((hl450.trans hl484).trans hl491) hs187) hl468 hl469 hx597) ?_
         rintro e606 w600 ⟨a602, n603, c604, K599, rfl, hS601, hs605⟩
         refine ⟨_, rfl, ?_⟩
         have hS607 : SH _ _ _ _ _ [_, _, _, _, _, _] := SH.call0 hS493 hS601
         refine vm rfl rfl ?_
         obtain ⟨r608, hx609, h610⟩ := ob h598
         refine wl_call wn rfl (rt_call (vs := [.slice a602 n603 c604, .slice a494 n495 c496]) co27 rfl) ((ok_laws_foPosts F) hS607.enter0 hs605 (SliceAt.mono hS601.le hs497) hx609) ?_
         rintro e614 w612 ⟨K611, rfl, hS613⟩
         refine ⟨_, rfl, ?_⟩
         have hS615 : SH _ _ _ _ _ [_, _, _, _, _, _] := SH.call0 hS607 hS613
         refine wl_val wn rfl (rv_not rfl) ?_
         refine nq ?_
         refine wc_cond rfl (fun hb616 => ?_) (fun hb616 => ?_)
         ·have h617 := cond_t hb616 h610
          refine sr ?_
          refine wl_val wn rfl (rv_assign (v := .bool false) rfl) ?_
          refine nq ?_
          refine rr ?_
          refine qe_block_ret ?_
          refine qe_then_ret ?_
          refine qe_then_ret ?_
          obtain rfl := oi h617
          have e618 := hx457 _ rfl
          subst e618
          refine qe_block_ret ?_
          refine qe_then_ret ?_
          obtain rfl := oi h448
          refine qe_then_ret ?_
          obtain rfl := oi h438
          have hS619 : SH _ _ _ _ _ [] := SH.sublist hS615 (.cons _ (.cons _ (.cons _ (.cons _ (.cons _ (.cons _ .slnil))))))
          exact qe_ret (vs := [_]) Try.results6 ⟨rfl, trivial⟩ ⟨K611, rfl, hS619⟩
         ·have h617 := cond_f hb616 h610
          refine wc_skip ?_
          refine qr ?_
          refine vm rfl rfl ?_
          refine wl_val wn rfl (rv_len (t := tGPost) Try.underlying58 rfl (SliceAt.mono (hS601.le.trans hS613.le) hs497)) ?_
          refine wl_val wn rfl (rv_gtr rfl rfl) ?_
          refine nq ?_
          refine wc_cond rfl (fun hb620 => ?_) (fun hb620 => ?_)
          ·have h621 := cond_t hb620 h617
           refine wc_region ?_
           refine vm rfl rfl ?_
           refine wl_val wn rfl (rv_add rfl rfl) ?_
           refine va rfl rfl ?_
           refine nb ?_
           refine qe_seq ?_
           refine wc_region ?_
           refine vm rfl rfl ?_
           refine wl_val wn rfl (rv_add rfl rfl) ?_
           refine va rfl rfl ?_
           refine wl_nil ?_
           obtain rfl := oi h621
           have hS622 : SH _ _ _ _ _ [_, _, _] := SH.sublist hS615 (.cons _ (.cons_cons _ (.cons_cons _ (.cons_cons _ (.cons _ (.cons _ .slnil))))))
           exact qe_mid' ⟨_, rfl, K611, rfl, hS622, ((((hl450.trans hl484).trans hl491).trans hS601.le).trans hS613.le), (w64_rng _), (w64_rng _)⟩ ⟨rfl, rfl, rfl, rfl, rfl, rfl, rfl, trivial⟩
          ·have h621 := cond_f hb620 h617
           refine wc_skip ?_
           refine qe_block ?_
           refine qe_seq ?_
           refine wc_region ?_
           refine vm rfl rfl ?_
           refine wl_val wn rfl (rv_add rfl rfl) ?_
           refine va rfl rfl ?_
           refine wl_nil ?_
           obtain rfl := oi h621
           have hS623 : SH _ _ _ _ _ [_, _, _] := SH.sublist hS615 (.cons _ (.cons_cons _ (.cons_cons _ (.cons_cons _ (.cons _ (.cons _ .slnil))))))
           exact qe_mid' ⟨_, rfl, K611, rfl, hS623, ((((hl450.trans hl484).trans hl491).trans hS601.le).trans hS613.le), hr453, (w64_rng _)⟩ ⟨rfl, rfl, rfl, rfl, rfl, rfl, rfl, trivial⟩
       ·have h459 := cond_f hb458 h456
        refine wc_exit ?_
        refine qe_then_exit ?_
        refine qe_then_exit ?_
        obtain rfl := oi h459
        have e624 := hx457 _ rfl
        subst e624
        refine qe_block_eq ?_
        obtain rfl := oi h448
        have hS625 : SH _ _ _ _ _ [_] := SH.sublist hS452 (.cons_cons _ (.cons _ (.cons _ .slnil)))
        exact qe_mid' ⟨_, K449, rfl, rfl, hS625, hl450, hr453⟩ ⟨rfl, rfl, trivial⟩
      ·rintro _ w442 ⟨s439, K440, rfl, rfl, hS443, hl441, hr444⟩
       refine qr ?_
       refine vm rfl rfl ?_
       refine wl_val wn rfl (rv_fieldAddr ff42_1 rfl) ?_
       refine wl_val wn rfl (rv_loadm1 tf40 rfl (.head _) hS443 rfl) ?_
       refine wl_val wn rfl (rv_len (t := tGEntry) Try.underlying40 rfl (SliceAt.mono hl441 hs187)) ?_
       refine wl_val wn rfl (rv_eql rfl rfl) ?_
       refine va rfl rfl ?_
       refine nq ?_
       refine wc_ret ?_
       obtain rfl := oi h438
       have hS628 : SH _ _ _ _ _ [] := SH.sublist hS443 (.cons _ .slnil)
       exact qe_ret (vs := [_]) Try.results6 ⟨rfl, trivial⟩ ⟨K440, rfl, hS628⟩
end Go.Proofs.Ytdcmmhjhffcnhaa
