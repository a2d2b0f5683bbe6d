/-
 Walks of the functions. Printed by gen.py.
-/
import Derived.Test.YtdcmmhjhffcnhaaGreatWalkA3
set_option linter.unusedVariables false
set_option maxRecDepth 100000
namespace Go.Proofs.YtdcmmhjhffcnhaaGreat
open Go Go.Fk Go.RowKit

set_option maxHeartbeats 2000000 in
theorem ok_impl_SegPosts (F : Nat) {w : World} {K : KMap} {a1 : Option Addr} {n2 c3 : Nat} {a5 : Option Addr} {n6 c7 : Nat} {a9 : Option Addr} {n10 c11 : Nat} {a13 : Option Addr} {n14 c15 : Nat} {p0_c : GConf} {p1_s : GSeg} {p2_field : Str} {p3_term : Str} {r : (List GPost)} (hS : SH w K [] w K []) (hs4 : SliceAt tStr K a1 n2 c3 p0_c.Stops) (hs8 : SliceAt tGSyn K a5 n6 c7 p0_c.Syns) (hs12 : SliceAt tGDoc K a9 n10 c11 p1_s.Docs) (hs16 : SliceAt tGEntry K a13 n14 c15 p1_s.Entries) (hl17 : p2_field.length ≤ maxLen) (hl18 : p3_term.length ≤ maxLen) (hm : M.impl_SegPosts F p0_c p1_s p2_field p3_term = some r) :
  Calls Tryz.prog 10 #[.agg #[.slice a1 n2 c3, .slice a5 n6 c7], .agg #[.slice a9 n10 c11, .slice a13 n14 c15], sv p2_field, sv p3_term] w fun e w' => ∃ (a_1 : Option Addr) (n_2 c_3 : Nat) (K' : KMap), e = .returned (.slice a_1 n_2 c_3) ∧ SH w K [] w' K' [tail (.slice a_1 n_2 c_3) 48 2] ∧ SliceAt tGPost K' a_1 n_2 c_3 r := by
 rw [M.impl_SegPosts] at hm
 refine calls_in Tryz.func10 rfl Tryz.ntmps10 rfl ?_
 refine sr ?_
 refine wl_box wn rfl rfl hS ?_
 intro g19 w20 hS21
 have hS22 : SH _ _ _ _ _ [obj g19 [.slice a1 n2 c3, .slice a5 n6 c7] 26] := hS21
 refine wl_box wn rfl rfl hS22 ?_
 intro g23 w24 hS25
 have hS26 : SH _ _ _ _ _ [obj g23 [.slice a9 n10 c11, .slice a13 n14 c15] 30, _] := hS25
 refine wl_val wn rfl (rv_assign (v := .slice none 0 0) rfl) ?_
 refine nr ?_
 refine wl_buildSlice0 tGPost wn rfl Tryz.underlying33 tf48 hS26 ?_
 intro a27 w28 K29 hl30 hs31 hS32
 refine va rfl rfl ?_
 refine nsr ?_
 refine wl_val wn rfl (rv_loadmS (ds := [.slice a1 n2 c3, .slice a5 n6 c7]) tf26 rfl (.tail _ (.tail _ (.head _))) hS32 rfl rfl) ?_
 refine wl_val wn rfl (rv_loadmS (ds := [.slice a9 n10 c11, .slice a13 n14 c15]) tf30 rfl (.tail _ (.head _)) hS32 rfl rfl) ?_
 obtain ⟨r33, hx34, h35⟩ := ob hm
 refine wl_call wn rfl (rt_call (vs := [.agg #[.slice a1 n2 c3, .slice a5 n6 c7], .agg #[.slice a9 n10 c11, .slice a13 n14 c15]]) co13 rfl) ((ok_impl_SegOk F) hS32.enter0 (SliceAt.mono hl30 hs4) (SliceAt.mono hl30 hs8) (SliceAt.mono hl30 hs12) (SliceAt.mono hl30 hs16) hx34) ?_
 rintro e39 w37 ⟨K36, rfl, hS38⟩
 refine ⟨_, rfl, ?_⟩
 have hS40 : SH _ _ _ _ _ [_, _, _] := SH.call0 hS32 hS38
 refine wl_val wn rfl (rv_not rfl) ?_
 refine nq ?_
 refine wc_cond rfl (fun hb41 => ?_) (fun hb41 => ?_)
 ·have h42 := cond_t hb41 h35
  refine sr ?_
  refine vm rfl rfl ?_
  refine va rfl rfl ?_
  refine nq ?_
  refine rr ?_
  obtain rfl := oi h42
  have hS43 : SH _ _ _ _ _ [_] := SH.sublist hS40 (.cons_cons _ (.cons _ (.cons _ .slnil)))
  exact qe_ret (vs := [_]) Tryz.results10 ⟨rfl, trivial⟩ ⟨a27, 0, 0, K36, rfl, hS43, (SliceAt.mono hS38.le hs31)⟩
 ·have h42 := cond_f hb41 h35
  refine wc_skip ?_
  refine qs ?_
  refine sr ?_
  refine vm rfl rfl ?_
  refine vm rfl rfl ?_
  obtain ⟨r44, hx45, h46⟩ := ob h42
  have hS47 : SH _ _ _ _ _ [_, _, _] := SH.front (p := [_]) hS40
  refine wl_call wn rfl (rt_call (vs := [.pointer (some ⟨g23, 0, none⟩), sv p2_field, sv p3_term]) co47 rfl) ((ok_impl_Seg_posts F) (SH.enter (Lin := [_]) hS47) (SliceAt.mono (hl30.trans hS38.le) hs12) (SliceAt.mono (hl30.trans hS38.le) hs16) hl17 hl18 hx45) ?_
  rintro e55 w49 ⟨a51, n52, c53, K48, rfl, hS50, hs54⟩
  refine ⟨_, rfl, ?_⟩
  have hS56 : SH _ _ _ _ _ [_, _, _] := SH.call (Lin := [_]) hS47 hS50
  refine wl_val wn rfl (rv_len (t := tGPost) Tryz.underlying33 rfl hs54) ?_
  refine wl_val wn rfl (rv_move (v := .int .i64 0) rfl) ?_
  refine nq ?_
  obtain ⟨o57, h58, h59⟩ := ob h46
  refine wc_cutg (fun E' w' => ∃ (a64 : Option Addr) (n65 c66 : Nat) (K60 : KMap), E' = [(9, .slice a64 n65 c66)] ∧ SH w K [] w' K60 [tail (.slice a64 n65 c66) 48 2] ∧ KLe K48 K60 ∧ SliceAt tGPost K60 a64 n65 c66 o57) ?_ ?_
  ·refine wc_block ?_
   obtain ⟨r69, h70, h71⟩ := ob h58
   have hS81 : SH _ _ _ _ _ [_] := SH.sublist hS56 (.cons _ (.cons_cons _ (.cons _ .slnil)))
   refine wc_forE' (fun (i72 : Nat) (s68 : (List GPost)) E' w' => ∃ (a77 : Option Addr) (n78 c79 : Nat) (K73 : KMap), E' = [(9, .slice a77 n78 c79), (20, .slice a51 n52 c53), (21, .int .i64 (r44.length : Int)), (22, .int .i64 ((i72 : Nat) : Int))] ∧ SH w K [] w' K73 [tail (.slice a77 n78 c79) 48 2] ∧ KLe K48 K73 ∧ SliceAt tGPost K73 a77 n78 c79 s68) h70 ⟨a27, 0, 0, K48, rfl, hS81, (KLe.refl _), (SliceAt.mono (hS38.le.trans hS50.le) hs31)⟩ ⟨rfl, rfl, rfl, rfl, trivial⟩ ?_ ?_
   ·rintro i72 s68 _ w75 r82 hi83 h84 ⟨a77, n78, c79, K73, rfl, hS76, hl74, hs80⟩
    refine sr ?_
    refine wl_val wn rfl (rv_lss rfl rfl) ?_
    refine ns ?_
    refine wc_cond_t rfl (decide_eq_true (by omega)) (wc_skip (qe_seq (wc_seq ?_)))
    refine wc_block ?_
    refine sr ?_
    obtain ⟨x86, hx87, h88⟩ := ob h84
    refine wl_indexAddr (t := tGPost) wn rfl Tryz.underlying33 tf48 rfl rfl (SliceAt.mono hl74 hs54) hx87 ?_
    intro b89 o90 u91 hu92 ha93
    obtain ⟨a95, n96, c97, rfl, hr94, hs98⟩ := hu92
    have ha99 : AtK _ b89 o90 [.int .i64 x86.Doc, .slice a95 n96 c97] := ha93
    refine wl_val wn rfl (rv_loadS (cs := [.int .i64 x86.Doc, .slice a95 n96 c97]) tf48 rfl hS76 ha99 rfl) ?_
    refine wl_alloc wn rfl tf48 hS76 ?_
    intro g100 w101 hS102
    have hS103 : SH _ _ _ _ _ [obj g100 [.int .i64 0, .slice none 0 0] 48, _] := hS102
    refine wl_store (cs' := [.int .i64 x86.Doc, .slice a95 n96 c97]) (v := .agg #[.int .i64 x86.Doc, .slice a95 n96 c97]) wn tf48 rfl rfl rfl (by simp [Value.cells, Value.oneCell']) hS103 rfl rfl ?_
    intro w104 hS105
    refine nq ?_
    refine wc_held (fun w' => Holds K73 w' ∧ HasObj g100 [.int .i64 x86.Doc, .slice a95 n96 c97] w') (fun w' => True) 11 [] mixed ?_
    have hS107 := SH.drew hS105
    refine wg_val (i := 0) (listed' := #[true, false, false, false, false, false, false, false, false, false, false]) (fun _ => True) rfl (by kernel_rfl) (pk_block (pk_then (pk_then (pk_block (pk_then (pk_then pk_body)))))) (by kernel_rfl) rfl (by kernel_rfl) (by kernel_rfl) rfl (.inl fun _ _ => trivial) ⟨⟨hS107.hasK (KLe.refl _), hS107.hasObj (.head _)⟩, (fun _ => trivial), by decide⟩ wn rfl (fun _ _ => (rv_move rfl)) ?_
    refine wg_val (i := 1) (listed' := #[true, true, false, false, false, false, false, false, false, false, false]) (fun _ => True) rfl (by kernel_rfl) (pk_block (pk_then (pk_then (pk_block (pk_then (pk_then pk_body)))))) (by kernel_rfl) rfl (by kernel_rfl) (by kernel_rfl) rfl (.inl fun _ _ => trivial) ⟨⟨hS107.hasK (KLe.refl _), hS107.hasObj (.head _)⟩, (fun _ => trivial), by decide⟩ wn rfl (fun _ _ => (rv_fieldAddr ff48_0 rfl)) ?_
    refine wg_val (i := 2) (listed' := #[true, true, true, false, false, false, false, false, false, false, false]) (HasObj g100 [.int .i64 x86.Doc, .slice a95 n96 c97]) rfl (by kernel_rfl) (pk_block (pk_then (pk_then (pk_block (pk_then (pk_then pk_body)))))) (by kernel_rfl) rfl (by kernel_rfl) (by kernel_rfl) rfl (.inl fun _ h => h.2) ⟨⟨hS107.hasK (KLe.refl _), hS107.hasObj (.head _)⟩, (fun _ => trivial), by decide⟩ wn rfl (fun _ h => rh_loadm1 tf3 rfl rfl h) ?_
    refine wg_val (i := 4) (listed' := #[true, true, true, false, true, false, false, false, false, false, false]) (fun _ => True) rfl (by kernel_rfl) (pk_block (pk_then (pk_then (pk_block (pk_then (pk_then pk_body)))))) (by kernel_rfl) rfl (by kernel_rfl) (by kernel_rfl) rfl (.inl fun _ _ => trivial) ⟨⟨hS107.hasK (KLe.refl _), hS107.hasObj (.head _)⟩, (fun _ => trivial), by decide⟩ wn rfl (fun _ _ => (rv_fieldAddr ff48_1 rfl)) ?_
    refine wg_val (i := 5) (listed' := #[true, true, true, false, true, true, false, false, false, false, false]) (HasObj g100 [.int .i64 x86.Doc, .slice a95 n96 c97]) rfl (by kernel_rfl) (pk_block (pk_then (pk_then (pk_block (pk_then (pk_then pk_body)))))) (by kernel_rfl) rfl (by kernel_rfl) (by kernel_rfl) rfl (.inl fun _ h => h.2) ⟨⟨hS107.hasK (KLe.refl _), hS107.hasObj (.head _)⟩, (fun _ => trivial), by decide⟩ wn rfl (fun _ h => rh_loadm1 tf37 rfl rfl h) ?_
    refine wg_one (i := 3) (by kernel_rfl) rfl ?_
    refine wl_buildSlice0 tInt wn rfl Tryz.underlying37 tf3 hS107 ?_
    intro a108 w109 K110 hl111 hs112 hS113
    refine wl_nil (qe_held (listed' := #[true, true, true, true, true, true, false, false, false, false, false]) rfl ⟨⟨hS113.hasK hl111, hS113.hasObj (.tail _ (.head _))⟩, (fun _ => trivial), by decide⟩ ?_)
    refine wg_one (i := 6) (by kernel_rfl) rfl ?_
    obtain ⟨x114, hx115, h116⟩ := ob h88
    refine wl_append (t := tInt) wn rfl Tryz.underlying37 tf3 rfl rfl rfl rfl rfl hs112 (SliceAt.mono hl111 hs98) hx115 hS113 ?_
    intro a117 n118 c119 w120 K121 hl122 hs123 hS124
    refine wl_nil (qe_held (listed' := #[true, true, true, true, true, true, true, false, false, false, false]) rfl ⟨⟨hS124.hasK (hl111.trans hl122), hS124.hasObj (.tail _ (.head _))⟩, (fun _ => trivial), by decide⟩ ?_)
    refine wg_val (i := 7) (listed' := #[true, true, true, true, true, true, true, true, false, false, false]) (fun _ => True) rfl (by kernel_rfl) (pk_block (pk_then (pk_then (pk_block (pk_then (pk_then pk_body)))))) (by kernel_rfl) rfl (by kernel_rfl) (by kernel_rfl) rfl (.inl fun _ _ => trivial) ⟨⟨hS124.hasK (hl111.trans hl122), hS124.hasObj (.tail _ (.head _))⟩, (fun _ => trivial), by decide⟩ wn rfl (fun _ _ => (rv_build (cs := #[.int .i64 x86.Doc, .slice a117 n118 c119]) sp48 tf48 rfl (by kernel_rfl))) ?_
    refine wg_one (i := 8) (by kernel_rfl) rfl ?_
    refine wl_buildSlice (t := tGPost) (n := 1) (pv := [(0, .agg #[.int .i64 x86.Doc, .slice a117 n118 c119])]) (cs := [.int .i64 x86.Doc, .slice a117 n118 c119]) (xs := [(GPost.mk x86.Doc x114)]) wn rfl Tryz.underlying33 tf48 rfl rfl rfl (by kernel_rfl) rfl rfl (lit_cons (u := .agg #[.int .i64 x86.Doc, .slice a117 n118 c119]) (z := (GPost.mk x86.Doc x114)) ⟨a117, n118, c119, rfl, hr94, hs123⟩ lit_nil) hS124 ?_
    intro a125 w126 K127 hl128 hs129 hS130
    refine wl_nil (qe_held (listed' := #[true, true, true, true, true, true, true, true, true, false, false]) rfl ⟨⟨hS130.hasK ((hl111.trans hl122).trans hl128), hS130.hasObj (.tail _ (.tail _ (.head _)))⟩, (fun _ => trivial), by decide⟩ ?_)
    refine wg_one (i := 9) (by kernel_rfl) rfl ?_
    have hS131 : SH _ _ _ _ _ [_, _, _, _] := SH.front (p := [_, _, _]) hS130
    obtain ⟨x132, hx133, h134⟩ := ob h116
    refine wl_append (t := tGPost) wn rfl Tryz.underlying33 tf48 rfl rfl rfl rfl rfl (SliceAt.mono ((hl111.trans hl122).trans hl128) hs80) hs129 hx133 hS131 ?_
    intro a135 n136 c137 w138 K139 hl140 hs141 hS142
    refine wl_nil (qe_held (listed' := #[true, true, true, true, true, true, true, true, true, true, false]) rfl ⟨⟨hS142.hasK (((hl111.trans hl122).trans hl128).trans hl140), hS142.hasObj (.tail _ (.tail _ (.tail _ (.head _))))⟩, (fun _ => trivial), by decide⟩ ?_)
    refine wg_val (i := 10) (listed' := #[true, true, true, true, true, true, true, true, true, true, true]) (fun _ => True) rfl (by kernel_rfl) (pk_block (pk_then (pk_then (pk_block (pk_then (pk_then pk_body)))))) (by kernel_rfl) rfl (by kernel_rfl) (by kernel_rfl) rfl (.inl fun _ _ => trivial) ⟨⟨hS142.hasK (((hl111.trans hl122).trans hl128).trans hl140), hS142.hasObj (.tail _ (.tail _ (.tail _ (.head _))))⟩, (fun _ => trivial), by decide⟩ wn rfl (fun _ _ => (rv_assign rfl)) ?_
    refine wg_done (by kernel_rfl) ?_
    refine qe_block ?_
    refine qg ?_
    refine wl_val wn rfl (rv_add_to rfl rfl (w64_succ hi83 (SliceAt.max hs54))) ?_
    refine vm rfl rfl ?_
    refine wl_nil ?_
    obtain rfl := oi h134
    have hS143 : SH _ _ _ _ _ [_] := SH.sublist hS142 (.cons_cons _ (.cons _ (.cons _ (.cons _ .slnil))))
    exact qe_mid' ⟨a135, n136, c137, K139, rfl, hS143, ((((hl74.trans hl111).trans hl122).trans hl128).trans hl140), hs141⟩ ⟨rfl, rfl, rfl, rfl, trivial⟩
   ·rintro s68 _ w75 hr144 ⟨a77, n78, c79, K73, rfl, hS76, hl74, hs80⟩
    subst hr144
    refine sr ?_
    refine wl_val wn rfl (rv_lss rfl rfl) ?_
    refine ns ?_
    refine wc_cond_f rfl (decide_eq_false (by omega)) ?_
    refine wc_exit ?_
    refine qe_then_exit ?_
    refine qe_then_exit ?_
    refine qe_block_eq ?_
    obtain rfl := oi h71
    exact qe_mid' ⟨a77, n78, c79, K73, rfl, hS76, hl74, hs80⟩ ⟨rfl, trivial⟩
  ·rintro _ w62 ⟨a64, n65, c66, K60, rfl, hS63, hl61, hs67⟩
   refine qr ?_
   refine vm rfl rfl ?_
   refine va rfl rfl ?_
   refine nq ?_
   refine wc_ret ?_
   obtain rfl := oi h59
   exact qe_ret (vs := [_]) Tryz.results10 ⟨rfl, trivial⟩ ⟨a64, n65, c66, K60, rfl, hS63, hs67⟩

theorem ok_laws_foInts (F : Nat) {w : World} {K : KMap} {a1 : Option Addr} {n2 c3 : Nat} {a5 : Option Addr} {n6 c7 : Nat} {p0_a : List Int} {p1_b : List Int} {r : Bool} (hS : SH w K [] w K []) (hs4 : SliceAt tInt K a1 n2 c3 p0_a) (hs8 : SliceAt tInt K a5 n6 c7 p1_b) (hm : M.laws_foInts F p0_a p1_b = some r) :
  Calls Tryz.prog 17 #[.slice a1 n2 c3, .slice a5 n6 c7] w fun e w' => ∃ (K' : KMap), e = .returned (.bool r) ∧ SH w K [] w' K' [] := by
 rw [M.laws_foInts] at hm
 refine calls_in Tryz.func17 rfl Tryz.ntmps17 rfl ?_
 refine sr ?_
 refine wl_val wn rfl (rv_assign (v := .bool false) rfl) ?_
 refine nsr ?_
 refine vm rfl rfl ?_
 refine wl_val wn rfl (rv_len (t := tInt) Tryz.underlying37 rfl hs4) ?_
 refine vm rfl rfl ?_
 refine wl_val wn rfl (rv_len (t := tInt) Tryz.underlying37 rfl hs8) ?_
 refine wl_val wn rfl (rv_neq rfl rfl) ?_
 refine nq ?_
 refine wc_cond rfl (fun hb9 => ?_) (fun hb9 => ?_)
 ·have h10 := cond_t hb9 hm
  refine sr ?_
  refine wl_val wn rfl (rv_assign (v := .bool false) rfl) ?_
  refine nq ?_
  refine rr ?_
  obtain rfl := oi h10
  exact qe_ret (vs := [_]) Tryz.results17 ⟨rfl, trivial⟩ ⟨K, rfl, hS⟩
 ·have h10 := cond_f hb9 hm
  refine wc_skip ?_
  refine qs ?_
  refine sr ?_
  refine wl_val wn rfl (rv_assign (v := .int .i64 0) rfl) ?_
  refine nq ?_
  obtain ⟨o11, h12, h13⟩ := ob h10
  refine wc_cutg (fun E' w' => ∃ (s14 : Unit) (K15 : KMap), o11 = .inl s14 ∧ E' = [] ∧ SH w K [] w' K15 [] ∧ KLe K K15) ?_ ?_
  ·refine wc_block ?_
   obtain ⟨r20, h21, h22⟩ := ob h12
   refine wc_while' (fun (s19 : Int) E' w' => ∃ (K23 : KMap), E' = [(0, .slice a1 n2 c3), (1, .slice a5 n6 c7), (5, .int .i64 s19)] ∧ SH w K [] w' K23 [] ∧ KLe K K23 ∧ rng64 s19) h21 ⟨K, rfl, hS, (KLe.refl _), (by decide : rng64 0)⟩ ⟨rfl, rfl, rfl, trivial⟩ ?_
   rintro s19 _ w25 r28 h29 hx30 ⟨K23, rfl, hS26, hl24, hr27⟩
   refine wc_seq ?_
   refine sr ?_
   refine vm rfl rfl ?_
   refine vm rfl rfl ?_
   refine wl_val wn rfl (rv_len (t := tInt) Tryz.underlying37 rfl (SliceAt.mono hl24 hs4)) ?_
   refine wl_val wn rfl (rv_lss rfl rfl) ?_
   refine nq ?_
   refine wc_cond rfl (fun hb31 => ?_) (fun hb31 => ?_)
   ·have h32 := cond_t hb31 h29
    refine wc_skip ?_
    refine qs ?_
    refine wc_block ?_
    refine wc_seq ?_
    refine wc_quiet mixed (by kernel_rfl) hS26 ?_
    refine qm rfl rfl ?_
    refine qm rfl rfl ?_
    obtain ⟨x33, hx34, h35⟩ := ob h32
    refine wq_indexAddr (t := tInt) wn rfl Tryz.underlying37 tf3 rfl rfl (SliceAt.mono hl24 hs4) hx34 ?_
    intro b36 o37 u38 hu39 ha40
    obtain ⟨rfl, hr41⟩ := hu39
    have ha42 : AtK _ b36 o37 [.int .i64 x33] := ha40
    refine wq_val wn rfl (rq_load1 tf3 rfl (ha42 0 _ rfl)) ?_
    refine qm rfl rfl ?_
    refine qm rfl rfl ?_
    obtain ⟨x43, hx44, h45⟩ := ob h35
    refine wq_indexAddr (t := tInt) wn rfl Tryz.underlying37 tf3 rfl rfl (SliceAt.mono hl24 hs8) hx44 ?_
    intro b46 o47 u48 hu49 ha50
    obtain ⟨rfl, hr51⟩ := hu49
    have ha52 : AtK _ b46 o47 [.int .i64 x43] := ha50
    refine wq_val wn rfl (rq_load1 tf3 rfl (ha52 0 _ rfl)) ?_
    refine wq_val wn rfl (fun _ _ => (rv_neq rfl rfl)) ?_
    refine wq_nil ?_
    rintro w54 ⟨K53, hS55, hl56⟩
    refine qe_seq ?_
    refine wc_cond rfl (fun hb57 => ?_) (fun hb57 => ?_)
    ·have h58 := cond_t hb57 h45
     refine sr ?_
     refine wl_val wn rfl (rv_assign (v := .bool false) rfl) ?_
     refine nq ?_
     refine wc_ret ?_
     refine qe_block_ret ?_
     refine qe_then_ret ?_
     refine qe_then_ret ?_
     obtain rfl := oi h58
     have e59 := hx30 _ rfl
     subst e59
     refine qe_block_ret ?_
     refine qe_then_ret ?_
     obtain rfl := oi h22
     refine qe_then_ret ?_
     obtain rfl := oi h13
     exact qe_ret (vs := [_]) Tryz.results17 ⟨rfl, trivial⟩ ⟨K53, rfl, hS55⟩
    ·have h58 := cond_f hb57 h45
     refine wc_skip ?_
     refine qe_block ?_
     refine qe_seq ?_
     refine wc_region ?_
     refine vm rfl rfl ?_
     refine wl_val wn rfl (rv_add rfl rfl) ?_
     refine va rfl rfl ?_
     refine wl_nil ?_
     obtain rfl := oi h58
     exact qe_mid' ⟨_, rfl, K53, rfl, hS55, (hl24.trans hl56), (w64_rng _)⟩ ⟨rfl, rfl, rfl, trivial⟩
   ·have h32 := cond_f hb31 h29
    refine wc_exit ?_
    refine qe_then_exit ?_
    refine qe_then_exit ?_
    obtain rfl := oi h32
    have e60 := hx30 _ rfl
    subst e60
    refine qe_block_eq ?_
    obtain rfl := oi h22
    exact qe_mid' ⟨_, K23, rfl, rfl, hS26, hl24⟩ trivial
  ·rintro _ w17 ⟨s14, K15, rfl, rfl, hS18, hl16⟩
   refine qr ?_
   refine wl_val wn rfl (rv_assign (v := .bool true) rfl) ?_
   refine nq ?_
   refine wc_ret ?_
   obtain rfl := oi h13
   exact qe_ret (vs := [_]) Tryz.results17 ⟨rfl, trivial⟩ ⟨K15, rfl, hS18⟩

set_option maxHeartbeats 2000000 in
theorem ok_laws_foPosts (F : Nat) {w : World} {K : KMap} {a1 : Option Addr} {n2 c3 : Nat} {a5 : Option Addr} {n6 c7 : Nat} {p0_a : List GPost} {p1_b : List GPost} {r : Bool} (hS : SH w K [] w K []) (hs4 : SliceAt tGPost K a1 n2 c3 p0_a) (hs8 : SliceAt tGPost K a5 n6 c7 p1_b) (hm : M.laws_foPosts F p0_a p1_b = some r) :
  Calls Tryz.prog 11 #[.slice a1 n2 c3, .slice a5 n6 c7] w fun e w' => ∃ (K' : KMap), e = .returned (.bool r) ∧ SH w K [] w' K' [] := by
 rw [M.laws_foPosts] at hm
 refine calls_in Tryz.func11 rfl Tryz.ntmps11 rfl ?_
 refine sr ?_
 refine wl_val wn rfl (rv_assign (v := .bool false) rfl) ?_
 refine nsr ?_
 refine vm rfl rfl ?_
 refine wl_val wn rfl (rv_len (t := tGPost) Tryz.underlying33 rfl hs4) ?_
 refine vm rfl rfl ?_
 refine wl_val wn rfl (rv_len (t := tGPost) Tryz.underlying33 rfl hs8) ?_
 refine wl_val wn rfl (rv_neq rfl rfl) ?_
 refine nq ?_
 refine wc_cond rfl (fun hb9 => ?_) (fun hb9 => ?_)
 ·have h10 := cond_t hb9 hm
  refine sr ?_
  refine wl_val wn rfl (rv_assign (v := .bool false) rfl) ?_
  refine nq ?_
  refine rr ?_
  obtain rfl := oi h10
  exact qe_ret (vs := [_]) Tryz.results11 ⟨rfl, trivial⟩ ⟨K, rfl, hS⟩
 ·have h10 := cond_f hb9 hm
  refine wc_skip ?_
  refine qs ?_
  refine sr ?_
  refine wl_val wn rfl (rv_assign (v := .int .i64 0) rfl) ?_
  refine nq ?_
  obtain ⟨o11, h12, h13⟩ := ob h10
  refine wc_cutg (fun E' w' => ∃ (s14 : Unit) (K15 : KMap), o11 = .inl s14 ∧ E' = [] ∧ SH w K [] w' K15 [] ∧ KLe K K15) ?_ ?_
  ·refine wc_block ?_
   obtain ⟨r20, h21, h22⟩ := ob h12
   refine wc_while' (fun (s19 : Int) E' w' => ∃ (K23 : KMap), E' = [(0, .slice a1 n2 c3), (1, .slice a5 n6 c7), (5, .int .i64 s19)] ∧ SH w K [] w' K23 [] ∧ KLe K K23 ∧ rng64 s19) h21 ⟨K, rfl, hS, (KLe.refl _), (by decide : rng64 0)⟩ ⟨rfl, rfl, rfl, trivial⟩ ?_
   rintro s19 _ w25 r28 h29 hx30 ⟨K23, rfl, hS26, hl24, hr27⟩
   refine wc_seq ?_
   refine sr ?_
   refine vm rfl rfl ?_
   refine vm rfl rfl ?_
   refine wl_val wn rfl (rv_len (t := tGPost) Tryz.underlying33 rfl (SliceAt.mono hl24 hs4)) ?_
   refine wl_val wn rfl (rv_lss rfl rfl) ?_
   refine nq ?_
   refine wc_cond rfl (fun hb31 => ?_) (fun hb31 => ?_)
   ·have h32 := cond_t hb31 h29
    refine wc_skip ?_
    refine qs ?_
    refine wc_block ?_
    refine wc_seq ?_
    obtain ⟨o33, h34, h35⟩ := ob h32
    refine wc_cutg (fun E' w' => ∃ (K36 : KMap), E' = [(0, .slice a1 n2 c3), (1, .slice a5 n6 c7), (5, .int .i64 s19), (41, .bool o33)] ∧ SH w K [] w' K36 [] ∧ KLe K23 K36) ?_ ?_
    ·refine wc_quiet mixed (by kernel_rfl) hS26 ?_
     refine qm rfl rfl ?_
     refine qm rfl rfl ?_
     obtain ⟨x40, hx41, h42⟩ := ob h34
     refine wq_indexAddr (t := tGPost) wn rfl Tryz.underlying33 tf48 rfl rfl (SliceAt.mono hl24 hs4) hx41 ?_
     intro b43 o44 u45 hu46 ha47
     obtain ⟨a49, n50, c51, rfl, hr48, hs52⟩ := hu46
     have ha53 : AtK _ b43 o44 [.int .i64 x40.Doc, .slice a49 n50 c51] := ha47
     refine wq_val wn rfl (fun _ _ => (rv_fieldAddr ff48_0 rfl)) ?_
     refine wq_val wn rfl (rq_load1 tf3 rfl (ha53 0 _ rfl)) ?_
     refine qm rfl rfl ?_
     refine qm rfl rfl ?_
     obtain ⟨x54, hx55, h56⟩ := ob h42
     refine wq_indexAddr (t := tGPost) wn rfl Tryz.underlying33 tf48 rfl rfl (SliceAt.mono hl24 hs8) hx55 ?_
     intro b57 o58 u59 hu60 ha61
     obtain ⟨a63, n64, c65, rfl, hr62, hs66⟩ := hu60
     have ha67 : AtK _ b57 o58 [.int .i64 x54.Doc, .slice a63 n64 c65] := ha61
     refine wq_val wn rfl (fun _ _ => (rv_fieldAddr ff48_0 rfl)) ?_
     refine wq_val wn rfl (rq_load1 tf3 rfl (ha67 0 _ rfl)) ?_
     refine wq_val wn rfl (fun _ _ => (rv_neq rfl rfl)) ?_
     refine qm rfl rfl ?_
     rcases bool_tf ((!(x40.Doc == x54.Doc))) with hb68 | hb68
     ·have h69 := cond_t hb68 h56
      refine wq_un (ug rfl rfl hb68) rfl ?_
      refine wq_un (ug rfl rfl hb68) rfl ?_
      refine wq_un (ug rfl rfl hb68) rfl ?_
      refine wq_un (ug rfl rfl hb68) rfl ?_
      refine wq_un (ug rfl rfl hb68) rfl ?_
      refine wq_un (ug rfl rfl hb68) rfl ?_
      refine wq_un (ug rfl rfl hb68) rfl ?_
      refine wq_un (ug rfl rfl hb68) rfl ?_
      refine wq_un (ug rfl rfl hb68) rfl ?_
      refine wq_un (ug rfl rfl hb68) rfl ?_
      refine wq_un (ug rfl rfl hb68) rfl ?_
      refine wq_un (ug rfl rfl hb68) rfl ?_
      refine wq_val wn rfl (fun _ _ => (rv_pick_t (v := .bool true) rfl hb68 rfl)) ?_
      refine wq_nil ?_
      rintro w71 ⟨K70, hS72, hl73⟩
      obtain rfl := oi h69
      exact qe_mid' ⟨K70, rfl, hS72, hl73⟩ ⟨rfl, rfl, rfl, rfl, trivial⟩
     ·have h69 := cond_f hb68 h56
      refine wq_val (wg rfl rfl hb68) rfl (fun _ _ => (rv_move rfl)) ?_
      refine wq_val (wg rfl rfl hb68) rfl (fun _ _ => (rv_move rfl)) ?_
      obtain ⟨x74, hx75, h76⟩ := ob h69
      refine wq_indexAddr (t := tGPost) (wg rfl rfl hb68) rfl Tryz.underlying33 tf48 rfl rfl (SliceAt.mono hl24 hs4) hx75 ?_
      intro b77 o78 u79 hu80 ha81
      obtain ⟨a83, n84, c85, rfl, hr82, hs86⟩ := hu80
      have ha87 : AtK _ b77 o78 [.int .i64 x74.Doc, .slice a83 n84 c85] := ha81
      refine wq_val (wg rfl rfl hb68) rfl (fun _ _ => (rv_fieldAddr ff48_1 rfl)) ?_
      refine wq_val (wg rfl rfl hb68) rfl (rq_load1 tf37 rfl (ha87 1 _ rfl)) ?_
      refine wq_val (wg rfl rfl hb68) rfl (fun _ _ => (rv_move rfl)) ?_
      refine wq_val (wg rfl rfl hb68) rfl (fun _ _ => (rv_move rfl)) ?_
      obtain ⟨x88, hx89, h90⟩ := ob h76
      refine wq_indexAddr (t := tGPost) (wg rfl rfl hb68) rfl Tryz.underlying33 tf48 rfl rfl (SliceAt.mono hl24 hs8) hx89 ?_
      intro b91 o92 u93 hu94 ha95
      obtain ⟨a97, n98, c99, rfl, hr96, hs100⟩ := hu94
      have ha101 : AtK _ b91 o92 [.int .i64 x88.Doc, .slice a97 n98 c99] := ha95
      refine wq_val (wg rfl rfl hb68) rfl (fun _ _ => (rv_fieldAddr ff48_1 rfl)) ?_
      refine wq_val (wg rfl rfl hb68) rfl (rq_load1 tf37 rfl (ha101 1 _ rfl)) ?_
      obtain ⟨r102, hx103, h104⟩ := ob h90
      refine wq_call (v := .bool r102) (wg rfl rfl hb68) rfl (fun _ => rt_call (vs := [.slice a83 n84 c85, .slice a97 n98 c99]) co17 rfl) (fun w107 ⟨K105, hS106, hl108⟩ => ((ok_laws_foInts F) hS106.enter0 (SliceAt.mono hl108 hs86) (SliceAt.mono hl108 hs100) hx103).mono fun e w' ⟨K', he, hS'⟩ => ⟨he, K', hS106.call0 hS', hl108.trans hS'.le⟩) ?_
      refine wq_val (wg rfl rfl hb68) rfl (fun _ _ => (rv_not rfl)) ?_
      refine wq_val wn rfl (fun _ _ => (rv_pick_f rfl hb68 rfl)) ?_
      refine wq_nil ?_
      rintro w110 ⟨K109, hS111, hl112⟩
      obtain rfl := oi h104
      exact qe_mid' ⟨K109, rfl, hS111, hl112⟩ ⟨rfl, rfl, rfl, rfl, trivial⟩
    ·rintro _ w38 ⟨K36, rfl, hS39, hl37⟩
     refine qe_seq ?_
     refine wc_cond rfl (fun hb113 => ?_) (fun hb113 => ?_)
     ·have h114 := cond_t hb113 h35
      refine sr ?_
      refine wl_val wn rfl (rv_assign (v := .bool false) rfl) ?_
      refine nq ?_
      refine wc_ret ?_
      refine qe_block_ret ?_
      refine qe_then_ret ?_
      refine qe_then_ret ?_
      obtain rfl := oi h114
      have e115 := hx30 _ rfl
      subst e115
      refine qe_block_ret ?_
      refine qe_then_ret ?_
      obtain rfl := oi h22
      refine qe_then_ret ?_
      obtain rfl := oi h13
      exact qe_ret (vs := [_]) Tryz.results11 ⟨rfl, trivial⟩ ⟨K36, rfl, hS39⟩
     ·have h114 := cond_f hb113 h35
      refine wc_skip ?_
      refine qe_block ?_
      refine qe_seq ?_
      refine wc_region ?_
      refine vm rfl rfl ?_
      refine wl_val wn rfl (rv_add rfl rfl) ?_
      refine va rfl rfl ?_
      refine wl_nil ?_
      obtain rfl := oi h114
      exact qe_mid' ⟨_, rfl, K36, rfl, hS39, (hl24.trans hl37), (w64_rng _)⟩ ⟨rfl, rfl, rfl, trivial⟩
   ·have h32 := cond_f hb31 h29
    refine wc_exit ?_
    refine qe_then_exit ?_
    refine qe_then_exit ?_
    obtain rfl := oi h32
    have e116 := hx30 _ rfl
    subst e116
    refine qe_block_eq ?_
    obtain rfl := oi h22
    exact qe_mid' ⟨_, K23, rfl, rfl, hS26, hl24⟩ trivial
  ·rintro _ w17 ⟨s14, K15, rfl, rfl, hS18, hl16⟩
   refine qr ?_
   refine wl_val wn rfl (rv_assign (v := .bool true) rfl) ?_
   refine nq ?_
   refine wc_ret ?_
   obtain rfl := oi h13
   exact qe_ret (vs := [_]) Tryz.results11 ⟨rfl, trivial⟩ ⟨K15, rfl, hS18⟩

theorem ok_spec_l1In (F : Nat) {w : World} {K : KMap} {p0_n : Int} {p1_low : Int} {p2_high : Int} {r : Bool} (hS : SH w K [] w K []) (hr1 : rng64 p0_n) (hr2 : rng64 p1_low) (hr3 : rng64 p2_high) (hm : M.spec_l1In F p0_n p1_low p2_high = some r) :
  Calls Tryz.prog 112 #[.int .i64 p0_n, .int .i64 p1_low, .int .i64 p2_high] w fun e w' => ∃ (K' : KMap), e = .returned (.bool r) ∧ SH w K [] w' K' [] := by
 rw [M.spec_l1In] at hm
 refine calls_in Tryz.func112 rfl Tryz.ntmps112 rfl ?_
 refine sr ?_
 refine wl_val wn rfl (rv_assign (v := .bool false) rfl) ?_
 refine nr ?_
 refine vm rfl rfl ?_
 refine vm rfl rfl ?_
 refine wl_val wn rfl (rv_geq rfl rfl) ?_
 refine vm rfl rfl ?_
 rcases bool_tf (decide (p1_low ≤ p0_n)) with hb4 | hb4
 ·have h5 := cond_t hb4 hm
  refine wl_val (wg rfl rfl hb4) rfl (rv_move rfl) ?_
  refine wl_val (wg rfl rfl hb4) rfl (rv_move rfl) ?_
  refine wl_val (wg rfl rfl hb4) rfl (rv_leq rfl rfl) ?_
  refine wl_val wn rfl (rv_pick_t rfl hb4 rfl) ?_
  refine va rfl rfl ?_
  refine nq ?_
  refine wc_ret ?_
  obtain rfl := oi h5
  exact qe_ret (vs := [_]) Tryz.results112 ⟨rfl, trivial⟩ ⟨K, rfl, hS⟩
 ·have h5 := cond_f hb4 hm
  refine wl_un (ug rfl rfl hb4) rfl ?_
  refine wl_un (ug rfl rfl hb4) rfl ?_
  refine wl_un (ug rfl rfl hb4) rfl ?_
  refine wl_val wn rfl (rv_pick_f (v := .bool false) rfl hb4 rfl) ?_
  refine va rfl rfl ?_
  refine nq ?_
  refine wc_ret ?_
  obtain rfl := oi h5
  exact qe_ret (vs := [_]) Tryz.results112 ⟨rfl, trivial⟩ ⟨K, rfl, hS⟩

theorem ok_spec_l1WordOk (F : Nat) {w : World} {K : KMap} {p0_s : Str} {r : Bool} (hS : SH w K [] w K []) (hl1 : p0_s.length ≤ maxLen) (hm : M.spec_l1WordOk F p0_s = some r) :
  Calls Tryz.prog 109 #[sv p0_s] w fun e w' => ∃ (K' : KMap), e = .returned (.bool r) ∧ SH w K [] w' K' [] := by
 rw [M.spec_l1WordOk] at hm
 refine calls_in Tryz.func109 rfl Tryz.ntmps109 rfl ?_
 refine sr ?_
 refine wl_val wn rfl (rv_assign (v := .bool false) rfl) ?_
 refine nsr ?_
 refine wl_val wn rfl (rv_assign (v := .int .i64 0) rfl) ?_
 refine nq ?_
 obtain ⟨o2, h3, h4⟩ := ob hm
 refine wc_cutg (fun E' w' => ∃ (s5 : Unit) (K6 : KMap), o2 = .inl s5 ∧ E' = [(0, sv p0_s)] ∧ SH w K [] w' K6 [] ∧ KLe K K6) ?_ ?_
 ·refine wc_block ?_
  obtain ⟨r11, h12, h13⟩ := ob h3
  refine wc_while' (fun (s10 : Int) E' w' => ∃ (K14 : KMap), E' = [(0, sv p0_s), (3, .int .i64 s10)] ∧ SH w K [] w' K14 [] ∧ KLe K K14 ∧ rng64 s10) h12 ⟨K, rfl, hS, (KLe.refl _), (by decide : rng64 0)⟩ ⟨rfl, rfl, trivial⟩ ?_
  rintro s10 _ w16 r19 h20 hx21 ⟨K14, rfl, hS17, hl15, hr18⟩
  refine wc_seq ?_
  refine sr ?_
  refine vm rfl rfl ?_
  refine vm rfl rfl ?_
  refine wl_val wn rfl (rv_slen Tryz.underlying9 rfl) ?_
  refine wl_val wn rfl (rv_lss rfl rfl) ?_
  refine nq ?_
  refine wc_cond rfl (fun hb22 => ?_) (fun hb22 => ?_)
  ·have h23 := cond_t hb22 h20
   refine wc_skip ?_
   refine qs ?_
   refine wc_block ?_
   refine wc_seq ?_
   obtain ⟨o24, h25, h26⟩ := ob h23
   refine wc_cutg (fun E' w' => ∃ (K27 : KMap), E' = [(0, sv p0_s), (3, .int .i64 s10), (23, .bool o24)] ∧ SH w K [] w' K27 [] ∧ KLe K14 K27) ?_ ?_
   ·refine wc_quiet mixed (by kernel_rfl) hS17 ?_
    refine qm rfl rfl ?_
    refine qm rfl rfl ?_
    obtain ⟨x31, hx32, h33⟩ := ob h25
    refine wq_val wn rfl (fun _ _ => (rv_sidx Tryz.underlying9 rfl rfl hx32)) ?_
    obtain ⟨r34, hx35, h36⟩ := ob h33
    refine wq_call (v := iv8 r34) wn rfl (fun _ => rt_call (vs := [iv8 x31]) co144 rfl) (fun w39 ⟨K37, hS38, hl40⟩ => ((ok_spec_l1Fold F) hS38.enter0  hx35).mono fun e w' ⟨K', he, hS'⟩ => ⟨he, K', hS38.call0 hS', hl40.trans hS'.le⟩) ?_
    refine qm rfl rfl ?_
    refine qm rfl rfl ?_
    obtain ⟨x41, hx42, h43⟩ := ob h36
    refine wq_val wn rfl (fun _ _ => (rv_sidx Tryz.underlying9 rfl rfl hx42)) ?_
    refine wq_val wn rfl (fun _ _ => (rv_bne rfl rfl)) ?_
    refine qm rfl rfl ?_
    rcases bool_tf ((!(r34 == x41))) with hb44 | hb44
    ·have h45 := cond_t hb44 h43
     refine wq_un (ug rfl rfl hb44) rfl ?_
     refine wq_un (ug rfl rfl hb44) rfl ?_
     refine wq_un (ug rfl rfl hb44) rfl ?_
     refine wq_un (ug rfl rfl hb44) rfl ?_
     refine wq_val wn rfl (fun _ _ => (rv_pick_t (v := .bool true) rfl hb44 rfl)) ?_
     refine wq_nil ?_
     rintro w47 ⟨K46, hS48, hl49⟩
     obtain rfl := oi h45
     exact qe_mid' ⟨K46, rfl, hS48, hl49⟩ ⟨rfl, rfl, rfl, trivial⟩
    ·have h45 := cond_f hb44 h43
     refine wq_val (wg rfl rfl hb44) rfl (fun _ _ => (rv_move rfl)) ?_
     refine wq_val (wg rfl rfl hb44) rfl (fun _ _ => (rv_move rfl)) ?_
     obtain ⟨x50, hx51, h52⟩ := ob h45
     refine wq_val (wg rfl rfl hb44) rfl (fun _ _ => (rv_sidx Tryz.underlying9 rfl rfl hx51)) ?_
     refine wq_val (wg rfl rfl hb44) rfl (fun _ _ => (rv_beq (b := (0 : UInt8)) rfl rfl)) ?_
     refine wq_val wn rfl (fun _ _ => (rv_pick_f rfl hb44 rfl)) ?_
     refine wq_nil ?_
     rintro w54 ⟨K53, hS55, hl56⟩
     obtain rfl := oi h52
     exact qe_mid' ⟨K53, rfl, hS55, hl56⟩ ⟨rfl, rfl, rfl, trivial⟩
   ·rintro _ w29 ⟨K27, rfl, hS30, hl28⟩
    refine qe_seq ?_
    refine wc_cond rfl (fun hb57 => ?_) (fun hb57 => ?_)
    ·have h58 := cond_t hb57 h26
     refine sr ?_
     refine wl_val wn rfl (rv_assign (v := .bool false) rfl) ?_
     refine nq ?_
     refine wc_ret ?_
     refine qe_block_ret ?_
     refine qe_then_ret ?_
     refine qe_then_ret ?_
     obtain rfl := oi h58
     have e59 := hx21 _ rfl
     subst e59
     refine qe_block_ret ?_
     refine qe_then_ret ?_
     obtain rfl := oi h13
     refine qe_then_ret ?_
     obtain rfl := oi h4
     exact qe_ret (vs := [_]) Tryz.results109 ⟨rfl, trivial⟩ ⟨K27, rfl, hS30⟩
    ·have h58 := cond_f hb57 h26
     refine wc_skip ?_
     refine qe_block ?_
     refine qe_seq ?_
     refine wc_region ?_
     refine vm rfl rfl ?_
     refine wl_val wn rfl (rv_add rfl rfl) ?_
     refine va rfl rfl ?_
     refine wl_nil ?_
     obtain rfl := oi h58
     exact qe_mid' ⟨_, rfl, K27, rfl, hS30, (hl15.trans hl28), (w64_rng _)⟩ ⟨rfl, rfl, trivial⟩
  ·have h23 := cond_f hb22 h20
   refine wc_exit ?_
   refine qe_then_exit ?_
   refine qe_then_exit ?_
   obtain rfl := oi h23
   have e60 := hx21 _ rfl
   subst e60
   refine qe_block_eq ?_
   obtain rfl := oi h13
   exact qe_mid' ⟨_, K14, rfl, rfl, hS17, hl15⟩ ⟨rfl, trivial⟩
 ·rintro _ w8 ⟨s5, K6, rfl, rfl, hS9, hl7⟩
  refine qr ?_
  refine vm rfl rfl ?_
  refine wl_val wn rfl (rv_slen Tryz.underlying9 rfl) ?_
  obtain ⟨r63, hx64, h65⟩ := ob h4
  refine wl_call wn rfl (rt_call (vs := [.int .i64 (p0_s.length : Int), .int .i64 1, .int .i64 12]) co112 rfl) ((ok_spec_l1In F) hS9.enter0 (rng_nat hl1) (by decide : rng64 1) (by decide : rng64 12) hx64) ?_
  rintro e69 w67 ⟨K66, rfl, hS68⟩
  refine ⟨_, rfl, ?_⟩
  have hS70 : SH _ _ _ _ _ [] := SH.call0 hS9 hS68
  refine va rfl rfl ?_
  refine nq ?_
  refine wc_ret ?_
  obtain rfl := oi h65
  exact qe_ret (vs := [_]) Tryz.results109 ⟨rfl, trivial⟩ ⟨K66, rfl, hS70⟩

set_option maxHeartbeats 2000000 in
theorem ok_spec_l2Ok (F : Nat) {w : World} {K : KMap} {a1 : Option Addr} {n2 c3 : Nat} {a5 : Option Addr} {n6 c7 : Nat} {p0_c : GConf} {r : Bool} (hS : SH w K [] w K []) (hs4 : SliceAt tStr K a1 n2 c3 p0_c.Stops) (hs8 : SliceAt tGSyn K a5 n6 c7 p0_c.Syns) (hm : M.spec_l2Ok F p0_c = some r) :
  Calls Tryz.prog 64 #[.agg #[.slice a1 n2 c3, .slice a5 n6 c7]] w fun e w' => ∃ (K' : KMap), e = .returned (.bool r) ∧ SH w K [] w' K' [] := by
 rw [M.spec_l2Ok] at hm
 refine calls_in Tryz.func64 rfl Tryz.ntmps64 rfl ?_
 refine sr ?_
 refine wl_box wn rfl rfl hS ?_
 intro g9 w10 hS11
 have hS12 : SH _ _ _ _ _ [obj g9 [.slice a1 n2 c3, .slice a5 n6 c7] 26] := hS11
 refine wl_val wn rfl (rv_assign (v := .bool false) rfl) ?_
 refine nsr ?_
 refine wl_val wn rfl (rv_assign (v := .int .i64 0) rfl) ?_
 refine nq ?_
 obtain ⟨o13, h14, h15⟩ := ob hm
 refine wc_cutg (fun E' w' => ∃ (s16 : Unit) (K17 : KMap), o13 = .inl s16 ∧ E' = [(1, .pointer (some ⟨g9, 0, none⟩))] ∧ SH w K [] w' K17 [obj g9 [.slice a1 n2 c3, .slice a5 n6 c7] 26] ∧ KLe K K17) ?_ ?_
 ·refine wc_block ?_
  obtain ⟨r22, h23, h24⟩ := ob h14
  refine wc_while' (fun (s21 : Int) E' w' => ∃ (K25 : KMap), E' = [(1, .pointer (some ⟨g9, 0, none⟩)), (3, .int .i64 s21)] ∧ SH w K [] w' K25 [obj g9 [.slice a1 n2 c3, .slice a5 n6 c7] 26] ∧ KLe K K25 ∧ rng64 s21) h23 ⟨K, rfl, hS12, (KLe.refl _), (by decide : rng64 0)⟩ ⟨rfl, rfl, trivial⟩ ?_
  rintro s21 _ w27 r30 h31 hx32 ⟨K25, rfl, hS28, hl26, hr29⟩
  refine wc_seq ?_
  refine sr ?_
  refine vm rfl rfl ?_
  refine wl_val wn rfl (rv_fieldAddr ff26_0 rfl) ?_
  refine wl_val wn rfl (rv_loadm1 tf23 rfl (.head _) hS28 rfl) ?_
  refine wl_val wn rfl (rv_len (t := tStr) Tryz.underlying23 rfl (SliceAt.mono hl26 hs4)) ?_
  refine wl_val wn rfl (rv_lss rfl rfl) ?_
  refine nq ?_
  refine wc_cond rfl (fun hb33 => ?_) (fun hb33 => ?_)
  ·have h34 := cond_t hb33 h31
   refine wc_skip ?_
   refine qs ?_
   refine wc_block ?_
   refine wc_seq ?_
   obtain ⟨o35, h36, h37⟩ := ob h34
   refine wc_cutg (fun E' w' => ∃ (K38 : KMap), E' = [(1, .pointer (some ⟨g9, 0, none⟩)), (3, .int .i64 s21), (38, .bool o35)] ∧ SH w K [] w' K38 [obj g9 [.slice a1 n2 c3, .slice a5 n6 c7] 26] ∧ KLe K25 K38) ?_ ?_
   ·refine wc_quiet mixed (by kernel_rfl) hS28 ?_
    refine wq_val wn rfl (fun _ _ => (rv_fieldAddr ff26_0 rfl)) ?_
    refine wq_val wn rfl (rq_loadm1 tf23 rfl (.head _) rfl) ?_
    refine qm rfl rfl ?_
    obtain ⟨x42, hx43, h44⟩ := ob h36
    refine wq_indexAddr (t := tStr) wn rfl Tryz.underlying23 tf9 rfl rfl (SliceAt.mono hl26 hs4) hx43 ?_
    intro b45 o46 u47 hu48 ha49
    obtain ⟨rfl, hl50⟩ := hu48
    have ha51 : AtK _ b45 o46 [sv x42] := ha49
    refine wq_val wn rfl (rq_load1 tf9 rfl (ha51 0 _ rfl)) ?_
    obtain ⟨r52, hx53, h54⟩ := ob h44
    refine wq_call (v := .bool r52) wn rfl (fun _ => rt_call (vs := [sv x42]) co109 rfl) (fun w57 ⟨K55, hS56, hl58⟩ => ((ok_spec_l1WordOk F) hS56.enter0 hl50 hx53).mono fun e w' ⟨K', he, hS'⟩ => ⟨he, K', hS56.call0 hS', hl58.trans hS'.le⟩) ?_
    refine wq_val wn rfl (fun _ _ => (rv_not rfl)) ?_
    refine qm rfl rfl ?_
    rcases bool_tf ((!r52)) with hb59 | hb59
    ·have h60 := cond_t hb59 h54
     refine wq_un (ug rfl rfl hb59) rfl ?_
     refine wq_un (ug rfl rfl hb59) rfl ?_
     refine wq_un (ug rfl rfl hb59) rfl ?_
     refine qu rfl rfl rfl ?_
     refine qu rfl rfl rfl ?_
     refine qu rfl rfl rfl ?_
     refine qu rfl rfl rfl ?_
     refine qu rfl rfl rfl ?_
     refine qu rfl rfl rfl ?_
     refine qu rfl rfl rfl ?_
     refine qu rfl rfl rfl ?_
     refine qu rfl rfl rfl ?_
     refine qu rfl rfl rfl ?_
     refine qu rfl rfl rfl ?_
     refine qu rfl rfl rfl ?_
     refine wq_un (ug rfl rfl hb59) rfl ?_
     refine wq_val wn rfl (fun _ _ => (rv_pick_t (v := .bool true) rfl hb59 rfl)) ?_
     refine wq_nil ?_
     rintro w62 ⟨K61, hS63, hl64⟩
     obtain rfl := oi h60
     exact qe_mid' ⟨K61, rfl, hS63, hl64⟩ ⟨rfl, rfl, rfl, trivial⟩
    ·have h60 := cond_f hb59 h54
     refine wq_val (wg rfl rfl hb59) rfl (fun _ _ => (rv_move rfl)) ?_
     refine wq_val (wg rfl rfl hb59) rfl (fun _ _ => (rv_gtr rfl rfl)) ?_
     refine wq_val (wg rfl rfl hb59) rfl (fun _ _ => (rv_move rfl)) ?_
     rcases bool_tf (decide ((0 : Int) < s21)) with hb65 | hb65
     ·have h66 := cond_t hb65 h60
      refine wq_val (wg rfl rfl hb65) rfl (fun _ _ => (rv_fieldAddr ff26_0 rfl)) ?_
      refine wq_val (wg rfl rfl hb65) rfl (rq_loadm1 tf23 rfl (.head _) rfl) ?_
      refine wq_val (wg rfl rfl hb65) rfl (fun _ _ => (rv_move rfl)) ?_
      obtain ⟨x67, hx68, h69⟩ := ob h66
      refine wq_indexAddr (t := tStr) (wg rfl rfl hb65) rfl Tryz.underlying23 tf9 rfl rfl (SliceAt.mono hl26 hs4) hx68 ?_
      intro b70 o71 u72 hu73 ha74
      obtain ⟨rfl, hl75⟩ := hu73
      have ha76 : AtK _ b70 o71 [sv x67] := ha74
      refine wq_val (wg rfl rfl hb65) rfl (rq_load1 tf9 rfl (ha76 0 _ rfl)) ?_
      refine wq_val (wg rfl rfl hb65) rfl (fun _ _ => (rv_fieldAddr ff26_0 rfl)) ?_
      refine wq_val (wg rfl rfl hb65) rfl (rq_loadm1 tf23 rfl (.head _) rfl) ?_
      refine wq_val (wg rfl rfl hb65) rfl (fun _ _ => (rv_move rfl)) ?_
      refine wq_val (wg rfl rfl hb65) rfl (fun _ _ => (rv_sub rfl rfl)) ?_
      obtain ⟨x77, hx78, h79⟩ := ob h69
      refine wq_indexAddr (t := tStr) (wg rfl rfl hb65) rfl Tryz.underlying23 tf9 rfl rfl (SliceAt.mono hl26 hs4) hx78 ?_
      intro b80 o81 u82 hu83 ha84
      obtain ⟨rfl, hl85⟩ := hu83
      have ha86 : AtK _ b80 o81 [sv x77] := ha84
      refine wq_val (wg rfl rfl hb65) rfl (rq_load1 tf9 rfl (ha86 0 _ rfl)) ?_
      refine wq_val (wg rfl rfl hb65) rfl (fun _ _ => (rv_sleq rfl rfl)) ?_
      refine wq_val (wg rfl rfl hb59) rfl (fun _ _ => (rv_pick_t rfl hb65 rfl)) ?_
      refine wq_val wn rfl (fun _ _ => (rv_pick_f rfl hb59 rfl)) ?_
      refine wq_nil ?_
      rintro w88 ⟨K87, hS89, hl90⟩
      obtain rfl := oi h79
      exact qe_mid' ⟨K87, rfl, hS89, hl90⟩ ⟨rfl, rfl, rfl, trivial⟩
     ·have h66 := cond_f hb65 h60
      refine wq_un (ug rfl rfl hb65) rfl ?_
      refine wq_un (ug rfl rfl hb65) rfl ?_
      refine wq_un (ug rfl rfl hb65) rfl ?_
      refine wq_un (ug rfl rfl hb65) rfl ?_
      refine wq_un (ug rfl rfl hb65) rfl ?_
      refine wq_un (ug rfl rfl hb65) rfl ?_
      refine wq_un (ug rfl rfl hb65) rfl ?_
      refine wq_un (ug rfl rfl hb65) rfl ?_
      refine wq_un (ug rfl rfl hb65) rfl ?_
      refine wq_un (ug rfl rfl hb65) rfl ?_
      refine wq_un (ug rfl rfl hb65) rfl ?_
      refine wq_un (ug rfl rfl hb65) rfl ?_
      refine wq_val (wg rfl rfl hb59) rfl (fun _ _ => (rv_pick_f (v := .bool false) rfl hb65 rfl)) ?_
      refine wq_val wn rfl (fun _ _ => (rv_pick_f rfl hb59 rfl)) ?_
      refine wq_nil ?_
      rintro w92 ⟨K91, hS93, hl94⟩
      obtain rfl := oi h66
      exact qe_mid' ⟨K91, rfl, hS93, hl94⟩ ⟨rfl, rfl, rfl, trivial⟩
   ·rintro _ w40 ⟨K38, rfl, hS41, hl39⟩
    refine qe_seq ?_
    refine wc_cond rfl (fun hb95 => ?_) (fun hb95 => ?_)
    ·have h96 := cond_t hb95 h37
     refine sr ?_
     refine wl_val wn rfl (rv_assign (v := .bool false) rfl) ?_
     refine nq ?_
     refine wc_ret ?_
     refine qe_block_ret ?_
     refine qe_then_ret ?_
     refine qe_then_ret ?_
     obtain rfl := oi h96
     have e97 := hx32 _ rfl
     subst e97
     refine qe_block_ret ?_
     refine qe_then_ret ?_
     obtain rfl := oi h24
     refine qe_then_ret ?_
     obtain rfl := oi h15
     have hS98 : SH _ _ _ _ _ [] := SH.sublist hS41 (.cons _ .slnil)
     exact qe_ret (vs := [_]) Tryz.results64 ⟨rfl, trivial⟩ ⟨K38, rfl, hS98⟩
    ·have h96 := cond_f hb95 h37
     refine wc_skip ?_
     refine qe_block ?_
     refine qe_seq ?_
     refine wc_region ?_
     refine vm rfl rfl ?_
     refine wl_val wn rfl (rv_add rfl rfl) ?_
     refine va rfl rfl ?_
     refine wl_nil ?_
     obtain rfl := oi h96
     exact qe_mid' ⟨_, rfl, K38, rfl, hS41, (hl26.trans hl39), (w64_rng _)⟩ ⟨rfl, rfl, trivial⟩
  ·have h34 := cond_f hb33 h31
   refine wc_exit ?_
   refine qe_then_exit ?_
   refine qe_then_exit ?_
   obtain rfl := oi h34
   have e99 := hx32 _ rfl
   subst e99
   refine qe_block_eq ?_
   obtain rfl := oi h24
   exact qe_mid' ⟨_, K25, rfl, rfl, hS28, hl26⟩ ⟨rfl, trivial⟩
 ·rintro _ w19 ⟨s16, K17, rfl, rfl, hS20, hl18⟩
  refine qs ?_
  refine sr ?_
  refine wl_val wn rfl (rv_assign (v := .int .i64 0) rfl) ?_
  refine nq ?_
  obtain ⟨o102, h103, h104⟩ := ob h15
  refine wc_cutg (fun E' w' => ∃ (s105 : Unit) (K106 : KMap), o102 = .inl s105 ∧ E' = [(1, .pointer (some ⟨g9, 0, none⟩))] ∧ SH w K [] w' K106 [obj g9 [.slice a1 n2 c3, .slice a5 n6 c7] 26] ∧ KLe K17 K106) ?_ ?_
  ·refine wc_block ?_
   obtain ⟨r111, h112, h113⟩ := ob h103
   refine wc_while' (fun (s110 : Int) E' w' => ∃ (K114 : KMap), E' = [(1, .pointer (some ⟨g9, 0, none⟩)), (4, .int .i64 s110)] ∧ SH w K [] w' K114 [obj g9 [.slice a1 n2 c3, .slice a5 n6 c7] 26] ∧ KLe K17 K114 ∧ rng64 s110) h112 ⟨K17, rfl, hS20, (KLe.refl _), (by decide : rng64 0)⟩ ⟨rfl, rfl, trivial⟩ ?_
   rintro s110 _ w116 r119 h120 hx121 ⟨K114, rfl, hS117, hl115, hr118⟩
   refine wc_seq ?_
   refine sr ?_
   refine vm rfl rfl ?_
   refine wl_val wn rfl (rv_fieldAddr ff26_1 rfl) ?_
   refine wl_val wn rfl (rv_loadm1 tf24 rfl (.head _) hS117 rfl) ?_
   refine wl_val wn rfl (rv_len (t := tGSyn) Tryz.underlying24 rfl (SliceAt.mono (hl18.trans hl115) hs8)) ?_
   refine wl_val wn rfl (rv_lss rfl rfl) ?_
   refine nq ?_
   refine wc_cond rfl (fun hb122 => ?_) (fun hb122 => ?_)
   ·have h123 := cond_t hb122 h120
    refine wc_skip ?_
    refine qs ?_
    refine wc_block ?_
    refine sr ?_
    refine wl_val wn rfl (rv_fieldAddr ff26_1 rfl) ?_
    refine wl_val wn rfl (rv_loadm1 tf24 rfl (.head _) hS117 rfl) ?_
    refine vm rfl rfl ?_
    obtain ⟨x124, hx125, h126⟩ := ob h123
    refine wl_indexAddr (t := tGSyn) wn rfl Tryz.underlying24 tf106 rfl rfl (SliceAt.mono (hl18.trans hl115) hs8) hx125 ?_
    intro b127 o128 u129 hu130 ha131
    obtain ⟨a132, n133, c134, rfl, hs135, hl136⟩ := hu130
    have ha137 : AtK _ b127 o128 [.slice a132 n133 c134, sv x124.To] := ha131
    refine wl_val wn rfl (rv_loadS (cs := [.slice a132 n133 c134, sv x124.To]) tf106 rfl hS117 ha137 rfl) ?_
    refine wl_alloc wn rfl tf106 hS117 ?_
    intro g138 w139 hS140
    have hS141 : SH _ _ _ _ _ [obj g138 [.slice none 0 0, sv []] 106, _] := hS140
    refine wl_store (cs' := [.slice a132 n133 c134, sv x124.To]) (v := .agg #[.slice a132 n133 c134, sv x124.To]) wn tf106 rfl rfl rfl (by simp [Value.cells, Value.oneCell', sv]) hS141 rfl rfl ?_
    intro w142 hS143
    refine nsr ?_
    refine wl_val wn rfl (rv_assign (v := .int .i64 0) rfl) ?_
    refine nq ?_
    obtain ⟨o144, h145, h146⟩ := ob h126
    refine wc_cutg (fun E' w' => ∃ (s147 : Unit) (K148 : KMap), o144 = .inl s147 ∧ E' = [(1, .pointer (some ⟨g9, 0, none⟩)), (4, .int .i64 s110), (5, .pointer (some ⟨g138, 0, none⟩))] ∧ SH w K [] w' K148 [obj g9 [.slice a1 n2 c3, .slice a5 n6 c7] 26, obj g138 [.slice a132 n133 c134, sv x124.To] 106] ∧ KLe K114 K148) ?_ ?_
    ·refine wc_block ?_
     obtain ⟨r153, h154, h155⟩ := ob h145
     have hS161 : SH _ _ _ _ _ [_, _] := SH.front (p := [_]) hS143
     refine wc_while' (fun (s152 : Int) E' w' => ∃ (K156 : KMap), E' = [(1, .pointer (some ⟨g9, 0, none⟩)), (4, .int .i64 s110), (5, .pointer (some ⟨g138, 0, none⟩)), (6, .int .i64 s152)] ∧ SH w K [] w' K156 [obj g9 [.slice a1 n2 c3, .slice a5 n6 c7] 26, obj g138 [.slice a132 n133 c134, sv x124.To] 106] ∧ KLe K114 K156 ∧ rng64 s152) h154 ⟨K114, rfl, hS161, (KLe.refl _), (by decide : rng64 0)⟩ ⟨rfl, rfl, rfl, rfl, trivial⟩ ?_
     rintro s152 _ w158 r162 h163 hx164 ⟨K156, rfl, hS159, hl157, hr160⟩
     refine wc_seq ?_
     refine sr ?_
     refine vm rfl rfl ?_
     refine wl_val wn rfl (rv_fieldAddr ff106_0 rfl) ?_
     refine wl_val wn rfl (rv_loadm1 tf23 rfl (.tail _ (.head _)) hS159 rfl) ?_
     refine wl_val wn rfl (rv_len (t := tStr) Tryz.underlying23 rfl (SliceAt.mono hl157 hs135)) ?_
     refine wl_val wn rfl (rv_lss rfl rfl) ?_
     refine nq ?_
     refine wc_cond rfl (fun hb165 => ?_) (fun hb165 => ?_)
     ·have h166 := cond_t hb165 h163
      refine wc_skip ?_
      refine qs ?_
      refine wc_block ?_
      refine wc_seq ?_
      obtain ⟨o167, h168, h169⟩ := ob h166
      refine wc_cutg (fun E' w' => ∃ (K170 : KMap), E' = [(1, .pointer (some ⟨g9, 0, none⟩)), (4, .int .i64 s110), (5, .pointer (some ⟨g138, 0, none⟩)), (6, .int .i64 s152), (88, .bool o167)] ∧ SH w K [] w' K170 [obj g9 [.slice a1 n2 c3, .slice a5 n6 c7] 26, obj g138 [.slice a132 n133 c134, sv x124.To] 106] ∧ KLe K156 K170) ?_ ?_
      ·refine wc_quiet mixed (by kernel_rfl) hS159 ?_
       refine wq_val wn rfl (fun _ _ => (rv_fieldAddr ff106_0 rfl)) ?_
       refine wq_val wn rfl (rq_loadm1 tf23 rfl (.tail _ (.head _)) rfl) ?_
       refine qm rfl rfl ?_
       obtain ⟨x174, hx175, h176⟩ := ob h168
       refine wq_indexAddr (t := tStr) wn rfl Tryz.underlying23 tf9 rfl rfl (SliceAt.mono hl157 hs135) hx175 ?_
       intro b177 o178 u179 hu180 ha181
       obtain ⟨rfl, hl182⟩ := hu180
       have ha183 : AtK _ b177 o178 [sv x174] := ha181
       refine wq_val wn rfl (rq_load1 tf9 rfl (ha183 0 _ rfl)) ?_
       obtain ⟨r184, hx185, h186⟩ := ob h176
       refine wq_call (v := .bool r184) wn rfl (fun _ => rt_call (vs := [sv x174]) co109 rfl) (fun w189 ⟨K187, hS188, hl190⟩ => ((ok_spec_l1WordOk F) hS188.enter0 hl182 hx185).mono fun e w' ⟨K', he, hS'⟩ => ⟨he, K', hS188.call0 hS', hl190.trans hS'.le⟩) ?_
       refine wq_val wn rfl (fun _ _ => (rv_not rfl)) ?_
       refine qm rfl rfl ?_
       rcases bool_tf ((!r184)) with hb191 | hb191
       ·have h192 := cond_t hb191 h186
        refine wq_un (ug rfl rfl hb191) rfl ?_
        refine wq_un (ug rfl rfl hb191) rfl ?_
        refine wq_un (ug rfl rfl hb191) rfl ?_
        refine wq_un (ug rfl rfl hb191) rfl ?_
        refine wq_un (ug rfl rfl hb191) rfl ?_
        refine wq_un (ug rfl rfl hb191) rfl ?_
        refine wq_un (ug rfl rfl hb191) rfl ?_
        refine wq_un (ug rfl rfl hb191) rfl ?_
        refine wq_un (ug rfl rfl hb191) rfl ?_
        refine wq_un (ug rfl rfl hb191) rfl ?_
        refine wq_un (ug rfl rfl hb191) rfl ?_
        refine wq_un (ug rfl rfl hb191) rfl ?_
        refine wq_val wn rfl (fun _ _ => (rv_pick_t (v := .bool true) rfl hb191 rfl)) ?_
        refine qm rfl rfl ?_
        refine qv rfl rfl rfl rfl ?_
        refine qv rfl rfl rfl rfl ?_
        refine qv rfl rfl rfl rfl ?_
        refine qv rfl rfl rfl rfl ?_
        refine qv rfl rfl rfl rfl ?_
        refine qv rfl rfl rfl rfl ?_
        refine qv rfl rfl rfl rfl ?_
        refine qv rfl rfl rfl rfl ?_
        refine wq_val wn rfl (fun _ _ => (rv_pick_t (v := .bool true) rfl rfl rfl)) ?_
        refine wq_nil ?_
        rintro w194 ⟨K193, hS195, hl196⟩
        obtain rfl := oi h192
        exact qe_mid' ⟨K193, rfl, hS195, hl196⟩ ⟨rfl, rfl, rfl, rfl, rfl, trivial⟩
       ·have h192 := cond_f hb191 h186
        refine wq_val (wg rfl rfl hb191) rfl (fun _ _ => (rv_fieldAddr ff106_0 rfl)) ?_
        refine wq_val (wg rfl rfl hb191) rfl (rq_loadm1 tf23 rfl (.tail _ (.head _)) rfl) ?_
        refine wq_val (wg rfl rfl hb191) rfl (fun _ _ => (rv_move rfl)) ?_
        obtain ⟨x197, hx198, h199⟩ := ob h192
        refine wq_indexAddr (t := tStr) (wg rfl rfl hb191) rfl Tryz.underlying23 tf9 rfl rfl (SliceAt.mono hl157 hs135) hx198 ?_
        intro b200 o201 u202 hu203 ha204
        obtain ⟨rfl, hl205⟩ := hu203
        have ha206 : AtK _ b200 o201 [sv x197] := ha204
        refine wq_val (wg rfl rfl hb191) rfl (rq_load1 tf9 rfl (ha206 0 _ rfl)) ?_
        obtain ⟨r207, hx208, h209⟩ := ob h199
        refine wq_call (v := sv r207) (wg rfl rfl hb191) rfl (fun _ => rt_call (vs := [sv x197]) co110 rfl) (fun w212 ⟨K210, hS211, hl213⟩ => ((ok_spec_l2Stem F) hS211.enter0 hl205 hx208).mono fun e w' ⟨K', he, hS', _⟩ => ⟨he, K', hS211.call0 hS', hl213.trans hS'.le⟩) ?_
        obtain ⟨_, _, _, ⟨_, _, _, hl214⟩, _⟩ := (ok_spec_l2Stem F) hS159.enter0 hl205 hx208 []
        refine wq_val (wg rfl rfl hb191) rfl (fun _ _ => (rv_fieldAddr ff106_0 rfl)) ?_
        refine wq_val (wg rfl rfl hb191) rfl (rq_loadm1 tf23 rfl (.tail _ (.head _)) rfl) ?_
        refine wq_val (wg rfl rfl hb191) rfl (fun _ _ => (rv_move rfl)) ?_
        obtain ⟨x215, hx216, h217⟩ := ob h209
        refine wq_indexAddr (t := tStr) (wg rfl rfl hb191) rfl Tryz.underlying23 tf9 rfl rfl (SliceAt.mono hl157 hs135) hx216 ?_
        intro b218 o219 u220 hu221 ha222
        obtain ⟨rfl, hl223⟩ := hu221
        have ha224 : AtK _ b218 o219 [sv x215] := ha222
        refine wq_val (wg rfl rfl hb191) rfl (rq_load1 tf9 rfl (ha224 0 _ rfl)) ?_
        refine wq_val (wg rfl rfl hb191) rfl (fun _ _ => (rv_sneq rfl rfl)) ?_
        refine wq_val wn rfl (fun _ _ => (rv_pick_f rfl hb191 rfl)) ?_
        refine qm rfl rfl ?_
        rcases bool_tf ((!(r207 == x215))) with hb225 | hb225
        ·have h226 := cond_t hb225 h217
         refine wq_un (ug rfl rfl hb225) rfl ?_
         refine wq_un (ug rfl rfl hb225) rfl ?_
         refine wq_un (ug rfl rfl hb225) rfl ?_
         refine wq_un (ug rfl rfl hb225) rfl ?_
         refine wq_un (ug rfl rfl hb225) rfl ?_
         refine wq_un (ug rfl rfl hb225) rfl ?_
         refine wq_un (ug rfl rfl hb225) rfl ?_
         refine wq_un (ug rfl rfl hb225) rfl ?_
         refine wq_val wn rfl (fun _ _ => (rv_pick_t (v := .bool true) rfl hb225 rfl)) ?_
         refine wq_nil ?_
         rintro w228 ⟨K227, hS229, hl230⟩
         obtain rfl := oi h226
         exact qe_mid' ⟨K227, rfl, hS229, hl230⟩ ⟨rfl, rfl, rfl, rfl, rfl, trivial⟩
        ·have h226 := cond_f hb225 h217
         refine wq_val (wg rfl rfl hb225) rfl (fun _ _ => (rv_fieldAddr ff26_0 rfl)) ?_
         refine wq_val (wg rfl rfl hb225) rfl (rq_loadm1 tf23 rfl (.head _) rfl) ?_
         refine wq_val (wg rfl rfl hb225) rfl (fun _ _ => (rv_fieldAddr ff106_0 rfl)) ?_
         refine wq_val (wg rfl rfl hb225) rfl (rq_loadm1 tf23 rfl (.tail _ (.head _)) rfl) ?_
         refine wq_val (wg rfl rfl hb225) rfl (fun _ _ => (rv_move rfl)) ?_
         obtain ⟨x231, hx232, h233⟩ := ob h226
         refine wq_indexAddr (t := tStr) (wg rfl rfl hb225) rfl Tryz.underlying23 tf9 rfl rfl (SliceAt.mono hl157 hs135) hx232 ?_
         intro b234 o235 u236 hu237 ha238
         obtain ⟨rfl, hl239⟩ := hu237
         have ha240 : AtK _ b234 o235 [sv x231] := ha238
         refine wq_val (wg rfl rfl hb225) rfl (rq_load1 tf9 rfl (ha240 0 _ rfl)) ?_
         obtain ⟨r241, hx242, h243⟩ := ob h233
         refine wq_call (v := .bool r241) (wg rfl rfl hb225) rfl (fun _ => rt_call (vs := [.slice a1 n2 c3, sv x231]) co111 rfl) (fun w246 ⟨K244, hS245, hl247⟩ => ((ok_spec_l2Has F) hS245.enter0 (SliceAt.mono (((hl18.trans hl115).trans hl157).trans hl247) hs4) hl239 hx242).mono fun e w' ⟨K', he, hS'⟩ => ⟨he, K', hS245.call0 hS', hl247.trans hS'.le⟩) ?_
         refine wq_val wn rfl (fun _ _ => (rv_pick_f rfl hb225 rfl)) ?_
         refine wq_nil ?_
         rintro w249 ⟨K248, hS250, hl251⟩
         obtain rfl := oi h243
         exact qe_mid' ⟨K248, rfl, hS250, hl251⟩ ⟨rfl, rfl, rfl, rfl, rfl, trivial⟩
      ·rintro _ w172 ⟨K170, rfl, hS173, hl171⟩
       refine qe_seq ?_
       refine wc_cond rfl (fun hb252 => ?_) (fun hb252 => ?_)
       ·have h253 := cond_t hb252 h169
        refine sr ?_
        refine wl_val wn rfl (rv_assign (v := .bool false) rfl) ?_
        refine nq ?_
        refine wc_ret ?_
        refine qe_block_ret ?_
        refine qe_then_ret ?_
        refine qe_then_ret ?_
        obtain rfl := oi h253
        have e254 := hx164 _ rfl
        subst e254
        refine qe_block_ret ?_
        refine qe_then_ret ?_
        obtain rfl := oi h155
        refine qe_then_ret ?_
        refine qe_block_ret ?_
        refine qe_then_ret ?_
        refine qe_then_ret ?_
        obtain rfl := oi h146
        have e255 := hx121 _ rfl
        subst e255
        refine qe_block_ret ?_
        refine qe_then_ret ?_
        obtain rfl := oi h113
        refine qe_then_ret ?_
        obtain rfl := oi h104
        have hS256 : SH _ _ _ _ _ [] := SH.sublist hS173 (.cons _ (.cons _ .slnil))
        exact qe_ret (vs := [_]) Tryz.results64 ⟨rfl, trivial⟩ ⟨K170, rfl, hS256⟩
       ·have h253 := cond_f hb252 h169
        refine wc_skip ?_
        refine qe_block ?_
        refine qe_seq ?_
        refine wc_region ?_
        refine vm rfl rfl ?_
        refine wl_val wn rfl (rv_add rfl rfl) ?_
        refine va rfl rfl ?_
        refine wl_nil ?_
        obtain rfl := oi h253
        exact qe_mid' ⟨_, rfl, K170, rfl, hS173, (hl157.trans hl171), (w64_rng _)⟩ ⟨rfl, rfl, rfl, rfl, trivial⟩
     ·have h166 := cond_f hb165 h163
      refine wc_exit ?_
      refine qe_then_exit ?_
      refine qe_then_exit ?_
      obtain rfl := oi h166
      have e257 := hx164 _ rfl
      subst e257
      refine qe_block_eq ?_
      obtain rfl := oi h155
      exact qe_mid' ⟨_, K156, rfl, rfl, hS159, hl157⟩ ⟨rfl, rfl, rfl, trivial⟩
    ·rintro _ w150 ⟨s147, K148, rfl, rfl, hS151, hl149⟩
     refine qs ?_
     obtain ⟨o260, h261, h262⟩ := ob h146
     refine wc_cutg (fun E' w' => ∃ (K263 : KMap), E' = [(1, .pointer (some ⟨g9, 0, none⟩)), (4, .int .i64 s110), (107, .bool o260)] ∧ SH w K [] w' K263 [obj g9 [.slice a1 n2 c3, .slice a5 n6 c7] 26] ∧ KLe K148 K263) ?_ ?_
     ·refine wc_quiet mixed (by kernel_rfl) hS151 ?_
      refine wq_val wn rfl (fun _ _ => (rv_fieldAddr ff106_0 rfl)) ?_
      refine wq_val wn rfl (rq_loadm1 tf23 rfl (.tail _ (.head _)) rfl) ?_
      refine wq_val wn rfl (fun _ _ => (rv_len (t := tStr) Tryz.underlying23 rfl (SliceAt.mono hl149 hs135))) ?_
      obtain ⟨r267, hx268, h269⟩ := ob h261
      refine wq_call (v := .bool r267) wn rfl (fun _ => rt_call (vs := [.int .i64 (x124.From.length : Int), .int .i64 1, .int .i64 3]) co112 rfl) (fun w272 ⟨K270, hS271, hl273⟩ => ((ok_spec_l1In F) hS271.enter0 (rng_nat (SliceAt.max (SliceAt.mono hl149 hs135))) (by decide : rng64 1) (by decide : rng64 3) hx268).mono fun e w' ⟨K', he, hS'⟩ => ⟨he, K', hS271.call0 hS', hl273.trans hS'.le⟩) ?_
      refine wq_val wn rfl (fun _ _ => (rv_not rfl)) ?_
      refine qm rfl rfl ?_
      rcases bool_tf ((!r267)) with hb274 | hb274
      ·have h275 := cond_t hb274 h269
       refine wq_un (ug rfl rfl hb274) rfl ?_
       refine wq_un (ug rfl rfl hb274) rfl ?_
       refine wq_un (ug rfl rfl hb274) rfl ?_
       refine wq_un (ug rfl rfl hb274) rfl ?_
       refine wq_val wn rfl (fun _ _ => (rv_pick_t (v := .bool true) rfl hb274 rfl)) ?_
       refine qm rfl rfl ?_
       refine qv rfl rfl rfl rfl ?_
       refine qv rfl rfl rfl rfl ?_
       refine qv rfl rfl rfl rfl ?_
       refine qv rfl rfl rfl rfl ?_
       refine qv rfl rfl rfl rfl ?_
       refine qv rfl rfl rfl rfl ?_
       refine wq_val wn rfl (fun _ _ => (rv_pick_t (v := .bool true) rfl rfl rfl)) ?_
       refine wq_nil ?_
       rintro w277 ⟨K276, hS278, hl279⟩
       obtain rfl := oi h275
       have hS280 : SH _ _ _ _ _ [_] := SH.sublist hS278 (.cons_cons _ (.cons _ .slnil))
       exact qe_mid' ⟨K276, rfl, hS280, hl279⟩ ⟨rfl, rfl, rfl, trivial⟩
      ·have h275 := cond_f hb274 h269
       refine wq_val (wg rfl rfl hb274) rfl (fun _ _ => (rv_fieldAddr ff106_1 rfl)) ?_
       refine wq_val (wg rfl rfl hb274) rfl (rq_loadm1 tf9 rfl (.tail _ (.head _)) rfl) ?_
       obtain ⟨r281, hx282, h283⟩ := ob h275
       refine wq_call (v := .bool r281) (wg rfl rfl hb274) rfl (fun _ => rt_call (vs := [sv x124.To]) co109 rfl) (fun w286 ⟨K284, hS285, hl287⟩ => ((ok_spec_l1WordOk F) hS285.enter0 hl136 hx282).mono fun e w' ⟨K', he, hS'⟩ => ⟨he, K', hS285.call0 hS', hl287.trans hS'.le⟩) ?_
       refine wq_val (wg rfl rfl hb274) rfl (fun _ _ => (rv_not rfl)) ?_
       refine wq_val wn rfl (fun _ _ => (rv_pick_f rfl hb274 rfl)) ?_
       refine qm rfl rfl ?_
       rcases bool_tf ((!r281)) with hb288 | hb288
       ·have h289 := cond_t hb288 h283
        refine wq_un (ug rfl rfl hb288) rfl ?_
        refine wq_un (ug rfl rfl hb288) rfl ?_
        refine wq_un (ug rfl rfl hb288) rfl ?_
        refine wq_un (ug rfl rfl hb288) rfl ?_
        refine wq_un (ug rfl rfl hb288) rfl ?_
        refine wq_un (ug rfl rfl hb288) rfl ?_
        refine wq_val wn rfl (fun _ _ => (rv_pick_t (v := .bool true) rfl hb288 rfl)) ?_
        refine wq_nil ?_
        rintro w291 ⟨K290, hS292, hl293⟩
        obtain rfl := oi h289
        have hS294 : SH _ _ _ _ _ [_] := SH.sublist hS292 (.cons_cons _ (.cons _ .slnil))
        exact qe_mid' ⟨K290, rfl, hS294, hl293⟩ ⟨rfl, rfl, rfl, trivial⟩
       ·have h289 := cond_f hb288 h283
        refine wq_val (wg rfl rfl hb288) rfl (fun _ _ => (rv_fieldAddr ff106_1 rfl)) ?_
        refine wq_val (wg rfl rfl hb288) rfl (rq_loadm1 tf9 rfl (.tail _ (.head _)) rfl) ?_
        obtain ⟨r295, hx296, h297⟩ := ob h289
        refine wq_call (v := sv r295) (wg rfl rfl hb288) rfl (fun _ => rt_call (vs := [sv x124.To]) co110 rfl) (fun w300 ⟨K298, hS299, hl301⟩ => ((ok_spec_l2Stem F) hS299.enter0 hl136 hx296).mono fun e w' ⟨K', he, hS', _⟩ => ⟨he, K', hS299.call0 hS', hl301.trans hS'.le⟩) ?_
        obtain ⟨_, _, _, ⟨_, _, _, hl302⟩, _⟩ := (ok_spec_l2Stem F) hS151.enter0 hl136 hx296 []
        refine wq_val (wg rfl rfl hb288) rfl (fun _ _ => (rv_fieldAddr ff106_1 rfl)) ?_
        refine wq_val (wg rfl rfl hb288) rfl (rq_loadm1 tf9 rfl (.tail _ (.head _)) rfl) ?_
        refine wq_val (wg rfl rfl hb288) rfl (fun _ _ => (rv_sneq rfl rfl)) ?_
        refine wq_val wn rfl (fun _ _ => (rv_pick_f rfl hb288 rfl)) ?_
        refine wq_nil ?_
        rintro w304 ⟨K303, hS305, hl306⟩
        obtain rfl := oi h297
        have hS307 : SH _ _ _ _ _ [_] := SH.sublist hS305 (.cons_cons _ (.cons _ .slnil))
        exact qe_mid' ⟨K303, rfl, hS307, hl306⟩ ⟨rfl, rfl, rfl, trivial⟩
     ·rintro _ w265 ⟨K263, rfl, hS266, hl264⟩
      refine qe_seq ?_
      refine wc_cond rfl (fun hb308 => ?_) (fun hb308 => ?_)
      ·have h309 := cond_t hb308 h262
       refine sr ?_
       refine wl_val wn rfl (rv_assign (v := .bool false) rfl) ?_
       refine nq ?_
       refine wc_ret ?_
       refine qe_block_ret ?_
       refine qe_then_ret ?_
       refine qe_then_ret ?_
       obtain rfl := oi h309
       have e310 := hx121 _ rfl
       subst e310
       refine qe_block_ret ?_
       refine qe_then_ret ?_
       obtain rfl := oi h113
       refine qe_then_ret ?_
       obtain rfl := oi h104
       have hS311 : SH _ _ _ _ _ [] := SH.sublist hS266 (.cons _ .slnil)
       exact qe_ret (vs := [_]) Tryz.results64 ⟨rfl, trivial⟩ ⟨K263, rfl, hS311⟩
      ·have h309 := cond_f hb308 h262
       refine wc_skip ?_
       refine qe_block ?_
       refine qe_seq ?_
       refine wc_region ?_
       refine vm rfl rfl ?_
       refine wl_val wn rfl (rv_add rfl rfl) ?_
       refine va rfl rfl ?_
       refine wl_nil ?_
       obtain rfl := oi h309
       exact qe_mid' ⟨_, rfl, K263, rfl, hS266, ((hl115.trans hl149).trans hl264), (w64_rng _)⟩ ⟨rfl, rfl, trivial⟩
   ·have h123 := cond_f hb122 h120
    refine wc_exit ?_
    refine qe_then_exit ?_
    refine qe_then_exit ?_
    obtain rfl := oi h123
    have e313 := hx121 _ rfl
    subst e313
    refine qe_block_eq ?_
    obtain rfl := oi h113
    exact qe_mid' ⟨_, K114, rfl, rfl, hS117, hl115⟩ ⟨rfl, trivial⟩
  ·rintro _ w108 ⟨s105, K106, rfl, rfl, hS109, hl107⟩
   refine qr ?_
   refine wl_val wn rfl (rv_fieldAddr ff26_0 rfl) ?_
   refine wl_val wn rfl (rv_loadm1 tf23 rfl (.head _) hS109 rfl) ?_
   refine wl_val wn rfl (rv_len (t := tStr) Tryz.underlying23 rfl (SliceAt.mono (hl18.trans hl107) hs4)) ?_
   refine wl_val wn rfl (rv_leq rfl rfl) ?_
   refine vm rfl rfl ?_
   rcases bool_tf (decide ((p0_c.Stops.length : Int) ≤ (6 : Int))) with hb316 | hb316
   ·have h317 := cond_t hb316 h104
    refine wl_val (wg rfl rfl hb316) rfl (rv_fieldAddr ff26_1 rfl) ?_
    refine wl_val (wg rfl rfl hb316) rfl (rv_loadm1 tf24 rfl (.head _) hS109 rfl) ?_
    refine wl_val (wg rfl rfl hb316) rfl (rv_len (t := tGSyn) Tryz.underlying24 rfl (SliceAt.mono (hl18.trans hl107) hs8)) ?_
    refine wl_val (wg rfl rfl hb316) rfl (rv_leq rfl rfl) ?_
    refine wl_val wn rfl (rv_pick_t rfl hb316 rfl) ?_
    refine va rfl rfl ?_
    refine nq ?_
    refine wc_ret ?_
    obtain rfl := oi h317
    have hS318 : SH _ _ _ _ _ [] := SH.sublist hS109 (.cons _ .slnil)
    exact qe_ret (vs := [_]) Tryz.results64 ⟨rfl, trivial⟩ ⟨K106, rfl, hS318⟩
   ·have h317 := cond_f hb316 h104
    refine wl_un (ug rfl rfl hb316) rfl ?_
    refine wl_un (ug rfl rfl hb316) rfl ?_
    refine wl_un (ug rfl rfl hb316) rfl ?_
    refine wl_un (ug rfl rfl hb316) rfl ?_
    refine wl_val wn rfl (rv_pick_f (v := .bool false) rfl hb316 rfl) ?_
    refine va rfl rfl ?_
    refine nq ?_
    refine wc_ret ?_
    obtain rfl := oi h317
    have hS319 : SH _ _ _ _ _ [] := SH.sublist hS109 (.cons _ .slnil)
    exact qe_ret (vs := [_]) Tryz.results64 ⟨rfl, trivial⟩ ⟨K106, rfl, hS319⟩

theorem ok_spec_l1Text (F : Nat) {w : World} {K : KMap} {p0_s : Str} {r : Bool} (hS : SH w K [] w K []) (hl1 : p0_s.length ≤ maxLen) (hm : M.spec_l1Text F p0_s = some r) :
  Calls Tryz.prog 146 #[sv p0_s] w fun e w' => ∃ (K' : KMap), e = .returned (.bool r) ∧ SH w K [] w' K' [] := by
 rw [M.spec_l1Text] at hm
 refine calls_in Tryz.func146 rfl Tryz.ntmps146 rfl ?_
 refine sr ?_
 refine wl_val wn rfl (rv_assign (v := .bool false) rfl) ?_
 refine nsr ?_
 refine wl_val wn rfl (rv_assign (v := .int .i64 0) rfl) ?_
 refine nq ?_
 obtain ⟨o2, h3, h4⟩ := ob hm
 refine wc_cutg (fun E' w' => ∃ (s5 : Unit) (K6 : KMap), o2 = .inl s5 ∧ E' = [(0, sv p0_s)] ∧ SH w K [] w' K6 [] ∧ KLe K K6) ?_ ?_
 ·refine wc_block ?_
  obtain ⟨r11, h12, h13⟩ := ob h3
  refine wc_while' (fun (s10 : Int) E' w' => ∃ (K14 : KMap), E' = [(0, sv p0_s), (3, .int .i64 s10)] ∧ SH w K [] w' K14 [] ∧ KLe K K14 ∧ rng64 s10) h12 ⟨K, rfl, hS, (KLe.refl _), (by decide : rng64 0)⟩ ⟨rfl, rfl, trivial⟩ ?_
  rintro s10 _ w16 r19 h20 hx21 ⟨K14, rfl, hS17, hl15, hr18⟩
  refine wc_seq ?_
  refine sr ?_
  refine vm rfl rfl ?_
  refine vm rfl rfl ?_
  refine wl_val wn rfl (rv_slen Tryz.underlying9 rfl) ?_
  refine wl_val wn rfl (rv_lss rfl rfl) ?_
  refine nq ?_
  refine wc_cond rfl (fun hb22 => ?_) (fun hb22 => ?_)
  ·have h23 := cond_t hb22 h20
   refine wc_skip ?_
   refine qs ?_
   refine wc_block ?_
   refine wc_seq ?_
   obtain ⟨o24, h25, h26⟩ := ob h23
   refine wc_cutg (fun E' w' => ∃ (K27 : KMap), E' = [(0, sv p0_s), (3, .int .i64 s10), (19, .bool o24)] ∧ SH w K [] w' K27 [] ∧ KLe K14 K27) ?_ ?_
   ·refine wc_region ?_
    refine vm rfl rfl ?_
    refine vm rfl rfl ?_
    obtain ⟨x31, hx32, h33⟩ := ob h25
    refine wl_val wn rfl (rv_sidx Tryz.underlying9 rfl rfl hx32) ?_
    refine wl_val wn rfl (rv_bl (b := (32 : UInt8)) rfl rfl) ?_
    refine vm rfl rfl ?_
    rcases bool_tf (decide (x31 < (32 : UInt8))) with hb34 | hb34
    ·have h35 := cond_t hb34 h33
     refine wl_un (ug rfl rfl hb34) rfl ?_
     refine wl_un (ug rfl rfl hb34) rfl ?_
     refine wl_un (ug rfl rfl hb34) rfl ?_
     refine wl_un (ug rfl rfl hb34) rfl ?_
     refine wl_val wn rfl (rv_pick_t (v := .bool true) rfl hb34 rfl) ?_
     refine wl_nil ?_
     obtain rfl := oi h35
     exact qe_mid' ⟨K14, rfl, hS17, (KLe.refl _)⟩ ⟨rfl, rfl, rfl, trivial⟩
    ·have h35 := cond_f hb34 h33
     refine wl_val (wg rfl rfl hb34) rfl (rv_move rfl) ?_
     refine wl_val (wg rfl rfl hb34) rfl (rv_move rfl) ?_
     obtain ⟨x36, hx37, h38⟩ := ob h35
     refine wl_val (wg rfl rfl hb34) rfl (rv_sidx Tryz.underlying9 rfl rfl hx37) ?_
     refine wl_val (wg rfl rfl hb34) rfl (rv_bg (b := (126 : UInt8)) rfl rfl) ?_
     refine wl_val wn rfl (rv_pick_f rfl hb34 rfl) ?_
     refine wl_nil ?_
     obtain rfl := oi h38
     exact qe_mid' ⟨K14, rfl, hS17, (KLe.refl _)⟩ ⟨rfl, rfl, rfl, trivial⟩
   ·rintro _ w29 ⟨K27, rfl, hS30, hl28⟩
    refine qe_seq ?_
    refine wc_cond rfl (fun hb39 => ?_) (fun hb39 => ?_)
    ·have h40 := cond_t hb39 h26
     refine sr ?_
     refine wl_val wn rfl (rv_assign (v := .bool false) rfl) ?_
     refine nq ?_
     refine wc_ret ?_
     refine qe_block_ret ?_
     refine qe_then_ret ?_
     refine qe_then_ret ?_
     obtain rfl := oi h40
     have e41 := hx21 _ rfl
     subst e41
     refine qe_block_ret ?_
     refine qe_then_ret ?_
     obtain rfl := oi h13
     refine qe_then_ret ?_
     obtain rfl := oi h4
     exact qe_ret (vs := [_]) Tryz.results146 ⟨rfl, trivial⟩ ⟨K27, rfl, hS30⟩
    ·have h40 := cond_f hb39 h26
     refine wc_skip ?_
     refine qe_block ?_
     refine qe_seq ?_
     refine wc_region ?_
     refine vm rfl rfl ?_
     refine wl_val wn rfl (rv_add rfl rfl) ?_
     refine va rfl rfl ?_
     refine wl_nil ?_
     obtain rfl := oi h40
     exact qe_mid' ⟨_, rfl, K27, rfl, hS30, (hl15.trans hl28), (w64_rng _)⟩ ⟨rfl, rfl, trivial⟩
  ·have h23 := cond_f hb22 h20
   refine wc_exit ?_
   refine qe_then_exit ?_
   refine qe_then_exit ?_
   obtain rfl := oi h23
   have e42 := hx21 _ rfl
   subst e42
   refine qe_block_eq ?_
   obtain rfl := oi h13
   exact qe_mid' ⟨_, K14, rfl, rfl, hS17, hl15⟩ ⟨rfl, trivial⟩
 ·rintro _ w8 ⟨s5, K6, rfl, rfl, hS9, hl7⟩
  refine qr ?_
  refine vm rfl rfl ?_
  refine wl_val wn rfl (rv_slen Tryz.underlying9 rfl) ?_
  refine wl_val wn rfl (rv_leq rfl rfl) ?_
  refine va rfl rfl ?_
  refine nq ?_
  refine wc_ret ?_
  obtain rfl := oi h4
  exact qe_ret (vs := [_]) Tryz.results146 ⟨rfl, trivial⟩ ⟨K6, rfl, hS9⟩

set_option maxHeartbeats 2000000 in
theorem ok_spec_l6Ok (F : Nat) {w : World} {K : KMap} {a2 : Option Addr} {n3 c4 : Nat} {a6 : Option Addr} {n7 c8 : Nat} {p0_d : GDoc} {r : Bool} (hS : SH w K [] w K []) (hr1 : rng64 p0_d.Id) (hs5 : SliceAt tGField K a2 n3 c4 p0_d.Fields) (hs9 : SliceAt tGAttr K a6 n7 c8 p0_d.Nums) (hm : M.spec_l6Ok F p0_d = some r) :
  Calls Tryz.prog 113 #[.agg #[.int .i64 p0_d.Id, .slice a2 n3 c4, .slice a6 n7 c8]] w fun e w' => ∃ (K' : KMap), e = .returned (.bool r) ∧ SH w K [] w' K' [] := by
 rw [M.spec_l6Ok] at hm
 refine calls_in Tryz.func113 rfl Tryz.ntmps113 rfl ?_
 refine sr ?_
 refine wl_box wn rfl rfl hS ?_
 intro g10 w11 hS12
 have hS13 : SH _ _ _ _ _ [obj g10 [.int .i64 p0_d.Id, .slice a2 n3 c4, .slice a6 n7 c8] 44] := hS12
 refine wl_val wn rfl (rv_assign (v := .bool false) rfl) ?_
 refine nsr ?_
 refine wl_val wn rfl (rv_assign (v := .int .i64 0) rfl) ?_
 refine nq ?_
 obtain ⟨o14, h15, h16⟩ := ob hm
 refine wc_cutg (fun E' w' => ∃ (s17 : Unit) (K18 : KMap), o14 = .inl s17 ∧ E' = [(1, .pointer (some ⟨g10, 0, none⟩))] ∧ SH w K [] w' K18 [obj g10 [.int .i64 p0_d.Id, .slice a2 n3 c4, .slice a6 n7 c8] 44] ∧ KLe K K18) ?_ ?_
 ·refine wc_block ?_
  obtain ⟨r23, h24, h25⟩ := ob h15
  refine wc_while' (fun (s22 : Int) E' w' => ∃ (K26 : KMap), E' = [(1, .pointer (some ⟨g10, 0, none⟩)), (3, .int .i64 s22)] ∧ SH w K [] w' K26 [obj g10 [.int .i64 p0_d.Id, .slice a2 n3 c4, .slice a6 n7 c8] 44] ∧ KLe K K26 ∧ rng64 s22) h24 ⟨K, rfl, hS13, (KLe.refl _), (by decide : rng64 0)⟩ ⟨rfl, rfl, trivial⟩ ?_
  rintro s22 _ w28 r31 h32 hx33 ⟨K26, rfl, hS29, hl27, hr30⟩
  refine wc_seq ?_
  refine sr ?_
  refine vm rfl rfl ?_
  refine wl_val wn rfl (rv_fieldAddr ff44_1 rfl) ?_
  refine wl_val wn rfl (rv_loadm1 tf41 rfl (.head _) hS29 rfl) ?_
  refine wl_val wn rfl (rv_len (t := tGField) Tryz.underlying41 rfl (SliceAt.mono hl27 hs5)) ?_
  refine wl_val wn rfl (rv_lss rfl rfl) ?_
  refine nq ?_
  refine wc_cond rfl (fun hb34 => ?_) (fun hb34 => ?_)
  ·have h35 := cond_t hb34 h32
   refine wc_skip ?_
   refine qs ?_
   refine wc_block ?_
   refine sr ?_
   refine wl_val wn rfl (rv_fieldAddr ff44_1 rfl) ?_
   refine wl_val wn rfl (rv_loadm1 tf41 rfl (.head _) hS29 rfl) ?_
   refine vm rfl rfl ?_
   obtain ⟨x36, hx37, h38⟩ := ob h35
   refine wl_indexAddr (t := tGField) wn rfl Tryz.underlying41 tf109 rfl rfl (SliceAt.mono hl27 hs5) hx37 ?_
   intro b39 o40 u41 hu42 ha43
   obtain ⟨rfl, hl44, hl45⟩ := hu42
   have ha46 : AtK _ b39 o40 [sv x36.Name, sv x36.Text] := ha43
   refine wl_val wn rfl (rv_loadS (cs := [sv x36.Name, sv x36.Text]) tf109 rfl hS29 ha46 rfl) ?_
   refine wl_alloc wn rfl tf109 hS29 ?_
   intro g47 w48 hS49
   have hS50 : SH _ _ _ _ _ [obj g47 [sv [], sv []] 109, _] := hS49
   refine wl_store (cs' := [sv x36.Name, sv x36.Text]) (v := .agg #[sv x36.Name, sv x36.Text]) wn tf109 rfl rfl rfl (by simp [Value.cells, Value.oneCell', sv]) hS50 rfl rfl ?_
   intro w51 hS52
   refine ns ?_
   obtain ⟨o53, h54, h55⟩ := ob h38
   refine wc_cutg (fun E' w' => ∃ (K56 : KMap), E' = [(1, .pointer (some ⟨g10, 0, none⟩)), (3, .int .i64 s22), (43, .bool o53)] ∧ SH w K [] w' K56 [obj g10 [.int .i64 p0_d.Id, .slice a2 n3 c4, .slice a6 n7 c8] 44] ∧ KLe K26 K56) ?_ ?_
   ·refine wc_quiet mixed (by kernel_rfl) hS52 ?_
    refine wq_val wn rfl (fun _ _ => (rv_fieldAddr ff109_0 rfl)) ?_
    refine wq_val wn rfl (rq_loadm1 tf9 rfl (.head _) rfl) ?_
    obtain ⟨r60, hx61, h62⟩ := ob h54
    refine wq_call (v := .bool r60) wn rfl (fun _ => rt_call (vs := [sv x36.Name]) co109 rfl) (fun w65 ⟨K63, hS64, hl66⟩ => ((ok_spec_l1WordOk F) hS64.enter0 hl44 hx61).mono fun e w' ⟨K', he, hS'⟩ => ⟨he, K', hS64.call0 hS', hl66.trans hS'.le⟩) ?_
    refine wq_val wn rfl (fun _ _ => (rv_not rfl)) ?_
    refine qm rfl rfl ?_
    rcases bool_tf ((!r60)) with hb67 | hb67
    ·have h68 := cond_t hb67 h62
     refine wq_un (ug rfl rfl hb67) rfl ?_
     refine wq_un (ug rfl rfl hb67) rfl ?_
     refine wq_un (ug rfl rfl hb67) rfl ?_
     refine wq_un (ug rfl rfl hb67) rfl ?_
     refine wq_val wn rfl (fun _ _ => (rv_pick_t (v := .bool true) rfl hb67 rfl)) ?_
     refine qm rfl rfl ?_
     refine qv rfl rfl rfl rfl ?_
     refine qv rfl rfl rfl rfl ?_
     refine qv rfl rfl rfl rfl ?_
     refine qu rfl rfl rfl ?_
     refine qu rfl rfl rfl ?_
     refine qu rfl rfl rfl ?_
     refine qu rfl rfl rfl ?_
     refine qu rfl rfl rfl ?_
     refine qu rfl rfl rfl ?_
     refine qu rfl rfl rfl ?_
     refine qu rfl rfl rfl ?_
     refine qu rfl rfl rfl ?_
     refine qu rfl rfl rfl ?_
     refine qv rfl rfl rfl rfl ?_
     refine wq_val wn rfl (fun _ _ => (rv_pick_t (v := .bool true) rfl rfl rfl)) ?_
     refine wq_nil ?_
     rintro w70 ⟨K69, hS71, hl72⟩
     obtain rfl := oi h68
     have hS73 : SH _ _ _ _ _ [_] := SH.sublist hS71 (.cons _ (.cons_cons _ .slnil))
     exact qe_mid' ⟨K69, rfl, hS73, hl72⟩ ⟨rfl, rfl, rfl, trivial⟩
    ·have h68 := cond_f hb67 h62
     refine wq_val (wg rfl rfl hb67) rfl (fun _ _ => (rv_fieldAddr ff109_1 rfl)) ?_
     refine wq_val (wg rfl rfl hb67) rfl (rq_loadm1 tf9 rfl (.head _) rfl) ?_
     obtain ⟨r74, hx75, h76⟩ := ob h68
     refine wq_call (v := .bool r74) (wg rfl rfl hb67) rfl (fun _ => rt_call (vs := [sv x36.Text]) co146 rfl) (fun w79 ⟨K77, hS78, hl80⟩ => ((ok_spec_l1Text F) hS78.enter0 hl45 hx75).mono fun e w' ⟨K', he, hS'⟩ => ⟨he, K', hS78.call0 hS', hl80.trans hS'.le⟩) ?_
     refine wq_val (wg rfl rfl hb67) rfl (fun _ _ => (rv_not rfl)) ?_
     refine wq_val wn rfl (fun _ _ => (rv_pick_f rfl hb67 rfl)) ?_
     refine qm rfl rfl ?_
     rcases bool_tf ((!r74)) with hb81 | hb81
     ·have h82 := cond_t hb81 h76
      refine wq_un (ug rfl rfl hb81) rfl ?_
      refine wq_un (ug rfl rfl hb81) rfl ?_
      refine wq_un (ug rfl rfl hb81) rfl ?_
      refine qu rfl rfl rfl ?_
      refine qu rfl rfl rfl ?_
      refine qu rfl rfl rfl ?_
      refine qu rfl rfl rfl ?_
      refine qu rfl rfl rfl ?_
      refine qu rfl rfl rfl ?_
      refine qu rfl rfl rfl ?_
      refine qu rfl rfl rfl ?_
      refine qu rfl rfl rfl ?_
      refine qu rfl rfl rfl ?_
      refine wq_un (ug rfl rfl hb81) rfl ?_
      refine wq_val wn rfl (fun _ _ => (rv_pick_t (v := .bool true) rfl hb81 rfl)) ?_
      refine wq_nil ?_
      rintro w84 ⟨K83, hS85, hl86⟩
      obtain rfl := oi h82
      have hS87 : SH _ _ _ _ _ [_] := SH.sublist hS85 (.cons _ (.cons_cons _ .slnil))
      exact qe_mid' ⟨K83, rfl, hS87, hl86⟩ ⟨rfl, rfl, rfl, trivial⟩
     ·have h82 := cond_f hb81 h76
      refine wq_val (wg rfl rfl hb81) rfl (fun _ _ => (rv_move rfl)) ?_
      refine wq_val (wg rfl rfl hb81) rfl (fun _ _ => (rv_gtr rfl rfl)) ?_
      refine wq_val (wg rfl rfl hb81) rfl (fun _ _ => (rv_move rfl)) ?_
      rcases bool_tf (decide ((0 : Int) < s22)) with hb88 | hb88
      ·have h89 := cond_t hb88 h82
       refine wq_val (wg rfl rfl hb88) rfl (fun _ _ => (rv_fieldAddr ff109_0 rfl)) ?_
       refine wq_val (wg rfl rfl hb88) rfl (rq_loadm1 tf9 rfl (.head _) rfl) ?_
       refine wq_val (wg rfl rfl hb88) rfl (fun _ _ => (rv_fieldAddr ff44_1 rfl)) ?_
       refine wq_val (wg rfl rfl hb88) rfl (rq_loadm1 tf41 rfl (.tail _ (.head _)) rfl) ?_
       refine wq_val (wg rfl rfl hb88) rfl (fun _ _ => (rv_move rfl)) ?_
       refine wq_val (wg rfl rfl hb88) rfl (fun _ _ => (rv_sub rfl rfl)) ?_
       obtain ⟨x90, hx91, h92⟩ := ob h89
       refine wq_indexAddr (t := tGField) (wg rfl rfl hb88) rfl Tryz.underlying41 tf109 rfl rfl (SliceAt.mono hl27 hs5) hx91 ?_
       intro b93 o94 u95 hu96 ha97
       obtain ⟨rfl, hl98, hl99⟩ := hu96
       have ha100 : AtK _ b93 o94 [sv x90.Name, sv x90.Text] := ha97
       refine wq_val (wg rfl rfl hb88) rfl (fun _ _ => (rv_fieldAddr ff109_0 rfl)) ?_
       refine wq_val (wg rfl rfl hb88) rfl (rq_load1 tf9 rfl (ha100 0 _ rfl)) ?_
       refine wq_val (wg rfl rfl hb88) rfl (fun _ _ => (rv_sleq rfl rfl)) ?_
       refine wq_val (wg rfl rfl hb81) rfl (fun _ _ => (rv_pick_t rfl hb88 rfl)) ?_
       refine wq_val wn rfl (fun _ _ => (rv_pick_f rfl hb81 rfl)) ?_
       refine wq_nil ?_
       rintro w102 ⟨K101, hS103, hl104⟩
       obtain rfl := oi h92
       have hS105 : SH _ _ _ _ _ [_] := SH.sublist hS103 (.cons _ (.cons_cons _ .slnil))
       exact qe_mid' ⟨K101, rfl, hS105, hl104⟩ ⟨rfl, rfl, rfl, trivial⟩
      ·have h89 := cond_f hb88 h82
       refine wq_un (ug rfl rfl hb88) rfl ?_
       refine wq_un (ug rfl rfl hb88) rfl ?_
       refine wq_un (ug rfl rfl hb88) rfl ?_
       refine wq_un (ug rfl rfl hb88) rfl ?_
       refine wq_un (ug rfl rfl hb88) rfl ?_
       refine wq_un (ug rfl rfl hb88) rfl ?_
       refine wq_un (ug rfl rfl hb88) rfl ?_
       refine wq_un (ug rfl rfl hb88) rfl ?_
       refine wq_un (ug rfl rfl hb88) rfl ?_
       refine wq_un (ug rfl rfl hb88) rfl ?_
       refine wq_val (wg rfl rfl hb81) rfl (fun _ _ => (rv_pick_f (v := .bool false) rfl hb88 rfl)) ?_
       refine wq_val wn rfl (fun _ _ => (rv_pick_f rfl hb81 rfl)) ?_
       refine wq_nil ?_
       rintro w107 ⟨K106, hS108, hl109⟩
       obtain rfl := oi h89
       have hS110 : SH _ _ _ _ _ [_] := SH.sublist hS108 (.cons _ (.cons_cons _ .slnil))
       exact qe_mid' ⟨K106, rfl, hS110, hl109⟩ ⟨rfl, rfl, rfl, trivial⟩
   ·rintro _ w58 ⟨K56, rfl, hS59, hl57⟩
    refine qe_seq ?_
    refine wc_cond rfl (fun hb111 => ?_) (fun hb111 => ?_)
    ·have h112 := cond_t hb111 h55
     refine sr ?_
     refine wl_val wn rfl (rv_assign (v := .bool false) rfl) ?_
     refine nq ?_
     refine wc_ret ?_
     refine qe_block_ret ?_
     refine qe_then_ret ?_
     refine qe_then_ret ?_
     obtain rfl := oi h112
     have e113 := hx33 _ rfl
     subst e113
     refine qe_block_ret ?_
     refine qe_then_ret ?_
     obtain rfl := oi h25
     refine qe_then_ret ?_
     obtain rfl := oi h16
     have hS114 : SH _ _ _ _ _ [] := SH.sublist hS59 (.cons _ .slnil)
     exact qe_ret (vs := [_]) Tryz.results113 ⟨rfl, trivial⟩ ⟨K56, rfl, hS114⟩
    ·have h112 := cond_f hb111 h55
     refine wc_skip ?_
     refine qe_block ?_
     refine qe_seq ?_
     refine wc_region ?_
     refine vm rfl rfl ?_
     refine wl_val wn rfl (rv_add rfl rfl) ?_
     refine va rfl rfl ?_
     refine wl_nil ?_
     obtain rfl := oi h112
     exact qe_mid' ⟨_, rfl, K56, rfl, hS59, (hl27.trans hl57), (w64_rng _)⟩ ⟨rfl, rfl, trivial⟩
  ·have h35 := cond_f hb34 h32
   refine wc_exit ?_
   refine qe_then_exit ?_
   refine qe_then_exit ?_
   obtain rfl := oi h35
   have e115 := hx33 _ rfl
   subst e115
   refine qe_block_eq ?_
   obtain rfl := oi h25
   exact qe_mid' ⟨_, K26, rfl, rfl, hS29, hl27⟩ ⟨rfl, trivial⟩
 ·rintro _ w20 ⟨s17, K18, rfl, rfl, hS21, hl19⟩
  refine qs ?_
  refine sr ?_
  refine wl_val wn rfl (rv_assign (v := .int .i64 0) rfl) ?_
  refine nq ?_
  obtain ⟨o118, h119, h120⟩ := ob h16
  refine wc_cutg (fun E' w' => ∃ (s121 : Unit) (K122 : KMap), o118 = .inl s121 ∧ E' = [(1, .pointer (some ⟨g10, 0, none⟩))] ∧ SH w K [] w' K122 [obj g10 [.int .i64 p0_d.Id, .slice a2 n3 c4, .slice a6 n7 c8] 44] ∧ KLe K18 K122) ?_ ?_
  ·refine wc_block ?_
   obtain ⟨r127, h128, h129⟩ := ob h119
   refine wc_while' (fun (s126 : Int) E' w' => ∃ (K130 : KMap), E' = [(1, .pointer (some ⟨g10, 0, none⟩)), (5, .int .i64 s126)] ∧ SH w K [] w' K130 [obj g10 [.int .i64 p0_d.Id, .slice a2 n3 c4, .slice a6 n7 c8] 44] ∧ KLe K18 K130 ∧ rng64 s126) h128 ⟨K18, rfl, hS21, (KLe.refl _), (by decide : rng64 0)⟩ ⟨rfl, rfl, trivial⟩ ?_
   rintro s126 _ w132 r135 h136 hx137 ⟨K130, rfl, hS133, hl131, hr134⟩
   refine wc_seq ?_
   refine sr ?_
   refine vm rfl rfl ?_
   refine wl_val wn rfl (rv_fieldAddr ff44_2 rfl) ?_
   refine wl_val wn rfl (rv_loadm1 tf42 rfl (.head _) hS133 rfl) ?_
   refine wl_val wn rfl (rv_len (t := tGAttr) Tryz.underlying42 rfl (SliceAt.mono (hl19.trans hl131) hs9)) ?_
   refine wl_val wn rfl (rv_lss rfl rfl) ?_
   refine nq ?_
   refine wc_cond rfl (fun hb138 => ?_) (fun hb138 => ?_)
   ·have h139 := cond_t hb138 h136
    refine wc_skip ?_
    refine qs ?_
    refine wc_block ?_
    refine wc_seq ?_
    obtain ⟨o140, h141, h142⟩ := ob h139
    refine wc_cutg (fun E' w' => ∃ (K143 : KMap), E' = [(1, .pointer (some ⟨g10, 0, none⟩)), (5, .int .i64 s126), (88, .bool o140)] ∧ SH w K [] w' K143 [obj g10 [.int .i64 p0_d.Id, .slice a2 n3 c4, .slice a6 n7 c8] 44] ∧ KLe K130 K143) ?_ ?_
    ·refine wc_quiet mixed (by kernel_rfl) hS133 ?_
     refine wq_val wn rfl (fun _ _ => (rv_fieldAddr ff44_2 rfl)) ?_
     refine wq_val wn rfl (rq_loadm1 tf42 rfl (.head _) rfl) ?_
     refine qm rfl rfl ?_
     obtain ⟨x147, hx148, h149⟩ := ob h141
     refine wq_indexAddr (t := tGAttr) wn rfl Tryz.underlying42 tf152 rfl rfl (SliceAt.mono (hl19.trans hl131) hs9) hx148 ?_
     intro b150 o151 u152 hu153 ha154
     obtain ⟨rfl, hl155, hr156⟩ := hu153
     have ha157 : AtK _ b150 o151 [sv x147.Name, .int .i64 x147.Num] := ha154
     refine wq_val wn rfl (fun _ _ => (rv_fieldAddr ff152_0 rfl)) ?_
     refine wq_val wn rfl (rq_load1 tf9 rfl (ha157 0 _ rfl)) ?_
     obtain ⟨r158, hx159, h160⟩ := ob h149
     refine wq_call (v := .bool r158) wn rfl (fun _ => rt_call (vs := [sv x147.Name]) co109 rfl) (fun w163 ⟨K161, hS162, hl164⟩ => ((ok_spec_l1WordOk F) hS162.enter0 hl155 hx159).mono fun e w' ⟨K', he, hS'⟩ => ⟨he, K', hS162.call0 hS', hl164.trans hS'.le⟩) ?_
     refine wq_val wn rfl (fun _ _ => (rv_not rfl)) ?_
     refine qm rfl rfl ?_
     rcases bool_tf ((!r158)) with hb165 | hb165
     ·have h166 := cond_t hb165 h160
      refine wq_un (ug rfl rfl hb165) rfl ?_
      refine wq_un (ug rfl rfl hb165) rfl ?_
      refine wq_un (ug rfl rfl hb165) rfl ?_
      refine wq_un (ug rfl rfl hb165) rfl ?_
      refine wq_un (ug rfl rfl hb165) rfl ?_
      refine wq_un (ug rfl rfl hb165) rfl ?_
      refine wq_un (ug rfl rfl hb165) rfl ?_
      refine wq_un (ug rfl rfl hb165) rfl ?_
      refine wq_val wn rfl (fun _ _ => (rv_pick_t (v := .bool true) rfl hb165 rfl)) ?_
      refine qm rfl rfl ?_
      refine qv rfl rfl rfl rfl ?_
      refine qv rfl rfl rfl rfl ?_
      refine qv rfl rfl rfl rfl ?_
      refine qu rfl rfl rfl ?_
      refine qu rfl rfl rfl ?_
      refine qu rfl rfl rfl ?_
      refine qu rfl rfl rfl ?_
      refine qu rfl rfl rfl ?_
      refine qu rfl rfl rfl ?_
      refine qu rfl rfl rfl ?_
      refine qu rfl rfl rfl ?_
      refine qu rfl rfl rfl ?_
      refine qu rfl rfl rfl ?_
      refine qu rfl rfl rfl ?_
      refine qu rfl rfl rfl ?_
      refine qu rfl rfl rfl ?_
      refine qu rfl rfl rfl ?_
      refine qv rfl rfl rfl rfl ?_
      refine wq_val wn rfl (fun _ _ => (rv_pick_t (v := .bool true) rfl rfl rfl)) ?_
      refine wq_nil ?_
      rintro w168 ⟨K167, hS169, hl170⟩
      obtain rfl := oi h166
      exact qe_mid' ⟨K167, rfl, hS169, hl170⟩ ⟨rfl, rfl, rfl, trivial⟩
     ·have h166 := cond_f hb165 h160
      refine wq_val (wg rfl rfl hb165) rfl (fun _ _ => (rv_fieldAddr ff44_2 rfl)) ?_
      refine wq_val (wg rfl rfl hb165) rfl (rq_loadm1 tf42 rfl (.head _) rfl) ?_
      refine wq_val (wg rfl rfl hb165) rfl (fun _ _ => (rv_move rfl)) ?_
      obtain ⟨x171, hx172, h173⟩ := ob h166
      refine wq_indexAddr (t := tGAttr) (wg rfl rfl hb165) rfl Tryz.underlying42 tf152 rfl rfl (SliceAt.mono (hl19.trans hl131) hs9) hx172 ?_
      intro b174 o175 u176 hu177 ha178
      obtain ⟨rfl, hl179, hr180⟩ := hu177
      have ha181 : AtK _ b174 o175 [sv x171.Name, .int .i64 x171.Num] := ha178
      refine wq_val (wg rfl rfl hb165) rfl (fun _ _ => (rv_fieldAddr ff152_1 rfl)) ?_
      refine wq_val (wg rfl rfl hb165) rfl (rq_load1 tf3 rfl (ha181 1 _ rfl)) ?_
      obtain ⟨r182, hx183, h184⟩ := ob h173
      refine wq_call (v := .bool r182) (wg rfl rfl hb165) rfl (fun _ => rt_call (vs := [.int .i64 x171.Num, .int .i64 0, .int .i64 999999999]) co112 rfl) (fun w187 ⟨K185, hS186, hl188⟩ => ((ok_spec_l1In F) hS186.enter0 hr180 (by decide : rng64 0) (by decide : rng64 999999999) hx183).mono fun e w' ⟨K', he, hS'⟩ => ⟨he, K', hS186.call0 hS', hl188.trans hS'.le⟩) ?_
      refine wq_val (wg rfl rfl hb165) rfl (fun _ _ => (rv_not rfl)) ?_
      refine wq_val wn rfl (fun _ _ => (rv_pick_f rfl hb165 rfl)) ?_
      refine qm rfl rfl ?_
      rcases bool_tf ((!r182)) with hb189 | hb189
      ·have h190 := cond_t hb189 h184
       refine wq_un (ug rfl rfl hb189) rfl ?_
       refine wq_un (ug rfl rfl hb189) rfl ?_
       refine wq_un (ug rfl rfl hb189) rfl ?_
       refine qu rfl rfl rfl ?_
       refine qu rfl rfl rfl ?_
       refine qu rfl rfl rfl ?_
       refine qu rfl rfl rfl ?_
       refine qu rfl rfl rfl ?_
       refine qu rfl rfl rfl ?_
       refine qu rfl rfl rfl ?_
       refine qu rfl rfl rfl ?_
       refine qu rfl rfl rfl ?_
       refine qu rfl rfl rfl ?_
       refine qu rfl rfl rfl ?_
       refine qu rfl rfl rfl ?_
       refine qu rfl rfl rfl ?_
       refine qu rfl rfl rfl ?_
       refine wq_un (ug rfl rfl hb189) rfl ?_
       refine wq_val wn rfl (fun _ _ => (rv_pick_t (v := .bool true) rfl hb189 rfl)) ?_
       refine wq_nil ?_
       rintro w192 ⟨K191, hS193, hl194⟩
       obtain rfl := oi h190
       exact qe_mid' ⟨K191, rfl, hS193, hl194⟩ ⟨rfl, rfl, rfl, trivial⟩
      ·have h190 := cond_f hb189 h184
       refine wq_val (wg rfl rfl hb189) rfl (fun _ _ => (rv_move rfl)) ?_
       refine wq_val (wg rfl rfl hb189) rfl (fun _ _ => (rv_gtr rfl rfl)) ?_
       refine wq_val (wg rfl rfl hb189) rfl (fun _ _ => (rv_move rfl)) ?_
       rcases bool_tf (decide ((0 : Int) < s126)) with hb195 | hb195
       ·have h196 := cond_t hb195 h190
        refine wq_val (wg rfl rfl hb195) rfl (fun _ _ => (rv_fieldAddr ff44_2 rfl)) ?_
        refine wq_val (wg rfl rfl hb195) rfl (rq_loadm1 tf42 rfl (.head _) rfl) ?_
        refine wq_val (wg rfl rfl hb195) rfl (fun _ _ => (rv_move rfl)) ?_
        obtain ⟨x197, hx198, h199⟩ := ob h196
        refine wq_indexAddr (t := tGAttr) (wg rfl rfl hb195) rfl Tryz.underlying42 tf152 rfl rfl (SliceAt.mono (hl19.trans hl131) hs9) hx198 ?_
        intro b200 o201 u202 hu203 ha204
        obtain ⟨rfl, hl205, hr206⟩ := hu203
        have ha207 : AtK _ b200 o201 [sv x197.Name, .int .i64 x197.Num] := ha204
        refine wq_val (wg rfl rfl hb195) rfl (fun _ _ => (rv_fieldAddr ff152_0 rfl)) ?_
        refine wq_val (wg rfl rfl hb195) rfl (rq_load1 tf9 rfl (ha207 0 _ rfl)) ?_
        refine wq_val (wg rfl rfl hb195) rfl (fun _ _ => (rv_fieldAddr ff44_2 rfl)) ?_
        refine wq_val (wg rfl rfl hb195) rfl (rq_loadm1 tf42 rfl (.head _) rfl) ?_
        refine wq_val (wg rfl rfl hb195) rfl (fun _ _ => (rv_move rfl)) ?_
        refine wq_val (wg rfl rfl hb195) rfl (fun _ _ => (rv_sub rfl rfl)) ?_
        obtain ⟨x208, hx209, h210⟩ := ob h199
        refine wq_indexAddr (t := tGAttr) (wg rfl rfl hb195) rfl Tryz.underlying42 tf152 rfl rfl (SliceAt.mono (hl19.trans hl131) hs9) hx209 ?_
        intro b211 o212 u213 hu214 ha215
        obtain ⟨rfl, hl216, hr217⟩ := hu214
        have ha218 : AtK _ b211 o212 [sv x208.Name, .int .i64 x208.Num] := ha215
        refine wq_val (wg rfl rfl hb195) rfl (fun _ _ => (rv_fieldAddr ff152_0 rfl)) ?_
        refine wq_val (wg rfl rfl hb195) rfl (rq_load1 tf9 rfl (ha218 0 _ rfl)) ?_
        refine wq_val (wg rfl rfl hb195) rfl (fun _ _ => (rv_sleq rfl rfl)) ?_
        refine wq_val (wg rfl rfl hb189) rfl (fun _ _ => (rv_pick_t rfl hb195 rfl)) ?_
        refine wq_val wn rfl (fun _ _ => (rv_pick_f rfl hb189 rfl)) ?_
        refine wq_nil ?_
        rintro w220 ⟨K219, hS221, hl222⟩
        obtain rfl := oi h210
        exact qe_mid' ⟨K219, rfl, hS221, hl222⟩ ⟨rfl, rfl, rfl, trivial⟩
       ·have h196 := cond_f hb195 h190
        refine wq_un (ug rfl rfl hb195) rfl ?_
        refine wq_un (ug rfl rfl hb195) rfl ?_
        refine wq_un (ug rfl rfl hb195) rfl ?_
        refine wq_un (ug rfl rfl hb195) rfl ?_
        refine wq_un (ug rfl rfl hb195) rfl ?_
        refine wq_un (ug rfl rfl hb195) rfl ?_
        refine wq_un (ug rfl rfl hb195) rfl ?_
        refine wq_un (ug rfl rfl hb195) rfl ?_
        refine wq_un (ug rfl rfl hb195) rfl ?_
        refine wq_un (ug rfl rfl hb195) rfl ?_
        refine wq_un (ug rfl rfl hb195) rfl ?_
        refine wq_un (ug rfl rfl hb195) rfl ?_
        refine wq_un (ug rfl rfl hb195) rfl ?_
        refine wq_un (ug rfl rfl hb195) rfl ?_
        refine wq_val (wg rfl rfl hb189) rfl (fun _ _ => (rv_pick_f (v := .bool false) rfl hb195 rfl)) ?_
        refine wq_val wn rfl (fun _ _ => (rv_pick_f rfl hb189 rfl)) ?_
        refine wq_nil ?_
        rintro w224 ⟨K223, hS225, hl226⟩
        obtain rfl := oi h196
        exact qe_mid' ⟨K223, rfl, hS225, hl226⟩ ⟨rfl, rfl, rfl, trivial⟩
    ·rintro _ w145 ⟨K143, rfl, hS146, hl144⟩
     refine qe_seq ?_
     refine wc_cond rfl (fun hb227 => ?_) (fun hb227 => ?_)
     ·have h228 := cond_t hb227 h142
      refine sr ?_
      refine wl_val wn rfl (rv_assign (v := .bool false) rfl) ?_
      refine nq ?_
      refine wc_ret ?_
      refine qe_block_ret ?_
      refine qe_then_ret ?_
      refine qe_then_ret ?_
      obtain rfl := oi h228
      have e229 := hx137 _ rfl
      subst e229
      refine qe_block_ret ?_
      refine qe_then_ret ?_
      obtain rfl := oi h129
      refine qe_then_ret ?_
      obtain rfl := oi h120
      have hS230 : SH _ _ _ _ _ [] := SH.sublist hS146 (.cons _ .slnil)
      exact qe_ret (vs := [_]) Tryz.results113 ⟨rfl, trivial⟩ ⟨K143, rfl, hS230⟩
     ·have h228 := cond_f hb227 h142
      refine wc_skip ?_
      refine qe_block ?_
      refine qe_seq ?_
      refine wc_region ?_
      refine vm rfl rfl ?_
      refine wl_val wn rfl (rv_add rfl rfl) ?_
      refine va rfl rfl ?_
      refine wl_nil ?_
      obtain rfl := oi h228
      exact qe_mid' ⟨_, rfl, K143, rfl, hS146, (hl131.trans hl144), (w64_rng _)⟩ ⟨rfl, rfl, trivial⟩
   ·have h139 := cond_f hb138 h136
    refine wc_exit ?_
    refine qe_then_exit ?_
    refine qe_then_exit ?_
    obtain rfl := oi h139
    have e231 := hx137 _ rfl
    subst e231
    refine qe_block_eq ?_
    obtain rfl := oi h129
    exact qe_mid' ⟨_, K130, rfl, rfl, hS133, hl131⟩ ⟨rfl, trivial⟩
  ·rintro _ w124 ⟨s121, K122, rfl, rfl, hS125, hl123⟩
   refine qr ?_
   refine wl_val wn rfl (rv_fieldAddr ff44_0 rfl) ?_
   refine wl_val wn rfl (rv_loadm1 tf3 rfl (.head _) hS125 rfl) ?_
   obtain ⟨r234, hx235, h236⟩ := ob h120
   refine wl_call wn rfl (rt_call (vs := [.int .i64 p0_d.Id, .int .i64 1, .int .i64 9999]) co112 rfl) ((ok_spec_l1In F) hS125.enter0 hr1 (by decide : rng64 1) (by decide : rng64 9999) hx235) ?_
   rintro e240 w238 ⟨K237, rfl, hS239⟩
   refine ⟨_, rfl, ?_⟩
   have hS241 : SH _ _ _ _ _ [_] := SH.call0 hS125 hS239
   refine vm rfl rfl ?_
   rcases bool_tf (r234) with hb242 | hb242
   ·have h243 := cond_t hb242 h236
    refine wl_val (wg rfl rfl hb242) rfl (rv_fieldAddr ff44_1 rfl) ?_
    refine wl_val (wg rfl rfl hb242) rfl (rv_loadm1 tf41 rfl (.head _) hS241 rfl) ?_
    refine wl_val (wg rfl rfl hb242) rfl (rv_len (t := tGField) Tryz.underlying41 rfl (SliceAt.mono ((hl19.trans hl123).trans hS239.le) hs5)) ?_
    obtain ⟨r244, hx245, h246⟩ := ob h243
    refine wl_call (wg rfl rfl hb242) rfl (rt_call (vs := [.int .i64 (p0_d.Fields.length : Int), .int .i64 0, .int .i64 3]) co112 rfl) ((ok_spec_l1In F) hS241.enter0 (rng_nat (SliceAt.max (SliceAt.mono ((hl19.trans hl123).trans hS239.le) hs5))) (by decide : rng64 0) (by decide : rng64 3) hx245) ?_
    rintro e250 w248 ⟨K247, rfl, hS249⟩
    refine ⟨_, rfl, ?_⟩
    have hS251 : SH _ _ _ _ _ [_] := SH.call0 hS241 hS249
    refine wl_val wn rfl (rv_pick_t rfl hb242 rfl) ?_
    refine vm rfl rfl ?_
    rcases bool_tf (r244) with hb252 | hb252
    ·have h253 := cond_t hb252 h246
     refine wl_val (wg rfl rfl hb252) rfl (rv_fieldAddr ff44_2 rfl) ?_
     refine wl_val (wg rfl rfl hb252) rfl (rv_loadm1 tf42 rfl (.head _) hS251 rfl) ?_
     refine wl_val (wg rfl rfl hb252) rfl (rv_len (t := tGAttr) Tryz.underlying42 rfl (SliceAt.mono (((hl19.trans hl123).trans hS239.le).trans hS249.le) hs9)) ?_
     refine wl_val (wg rfl rfl hb252) rfl (rv_leq rfl rfl) ?_
     refine wl_val wn rfl (rv_pick_t rfl hb252 rfl) ?_
     refine va rfl rfl ?_
     refine nq ?_
     refine wc_ret ?_
     obtain rfl := oi h253
     have hS254 : SH _ _ _ _ _ [] := SH.sublist hS251 (.cons _ .slnil)
     exact qe_ret (vs := [_]) Tryz.results113 ⟨rfl, trivial⟩ ⟨K247, rfl, hS254⟩
    ·have h253 := cond_f hb252 h246
     refine wl_un (ug rfl rfl hb252) rfl ?_
     refine wl_un (ug rfl rfl hb252) rfl ?_
     refine wl_un (ug rfl rfl hb252) rfl ?_
     refine wl_un (ug rfl rfl hb252) rfl ?_
     refine wl_val wn rfl (rv_pick_f (v := .bool false) rfl hb252 rfl) ?_
     refine va rfl rfl ?_
     refine nq ?_
     refine wc_ret ?_
     obtain rfl := oi h253
     have hS255 : SH _ _ _ _ _ [] := SH.sublist hS251 (.cons _ .slnil)
     exact qe_ret (vs := [_]) Tryz.results113 ⟨rfl, trivial⟩ ⟨K247, rfl, hS255⟩
   ·have h243 := cond_f hb242 h236
    refine wl_un (ug rfl rfl hb242) rfl ?_
    refine wl_un (ug rfl rfl hb242) rfl ?_
    refine wl_un (ug rfl rfl hb242) rfl ?_
    refine wl_un (ug rfl rfl hb242) rfl ?_
    refine wl_val wn rfl (rv_pick_f (v := .bool false) rfl hb242 rfl) ?_
    refine vm rfl rfl ?_
    refine wl_un (ug rfl rfl rfl) rfl ?_
    refine wl_un (ug rfl rfl rfl) rfl ?_
    refine wl_un (ug rfl rfl rfl) rfl ?_
    refine wl_un (ug rfl rfl rfl) rfl ?_
    refine wl_val wn rfl (rv_pick_f (v := .bool false) rfl rfl rfl) ?_
    refine va rfl rfl ?_
    refine nq ?_
    refine wc_ret ?_
    obtain rfl := oi h243
    have hS256 : SH _ _ _ _ _ [] := SH.sublist hS241 (.cons _ .slnil)
    exact qe_ret (vs := [_]) Tryz.results113 ⟨rfl, trivial⟩ ⟨K237, rfl, hS256⟩

set_option maxHeartbeats 2000000 in
theorem ok_spec_l6Docs (F : Nat) {w : World} {K : KMap} {a1 : Option Addr} {n2 c3 : Nat} {p0_list : List GDoc} {r : Bool} (hS : SH w K [] w K []) (hs4 : SliceAt tGDoc K a1 n2 c3 p0_list) (hm : M.spec_l6Docs F p0_list = some r) :
  Calls Tryz.prog 65 #[.slice a1 n2 c3] w fun e w' => ∃ (K' : KMap), e = .returned (.bool r) ∧ SH w K [] w' K' [] := by
 rw [M.spec_l6Docs] at hm
 refine calls_in Tryz.func65 rfl Tryz.ntmps65 rfl ?_
 refine sr ?_
 refine wl_val wn rfl (rv_assign (v := .bool false) rfl) ?_
 refine nsr ?_
 refine wl_val wn rfl (rv_assign (v := .int .i64 0) rfl) ?_
 refine nq ?_
 obtain ⟨o5, h6, h7⟩ := ob hm
 refine wc_cutg (fun E' w' => ∃ (s8 : Unit) (K9 : KMap), o5 = .inl s8 ∧ E' = [(0, .slice a1 n2 c3)] ∧ SH w K [] w' K9 [] ∧ KLe K K9) ?_ ?_
 ·refine wc_block ?_
  obtain ⟨r14, h15, h16⟩ := ob h6
  refine wc_while' (fun (s13 : Int) E' w' => ∃ (K17 : KMap), E' = [(0, .slice a1 n2 c3), (3, .int .i64 s13)] ∧ SH w K [] w' K17 [] ∧ KLe K K17 ∧ rng64 s13) h15 ⟨K, rfl, hS, (KLe.refl _), (by decide : rng64 0)⟩ ⟨rfl, rfl, trivial⟩ ?_
  rintro s13 _ w19 r22 h23 hx24 ⟨K17, rfl, hS20, hl18, hr21⟩
  refine wc_seq ?_
  refine sr ?_
  refine vm rfl rfl ?_
  refine vm rfl rfl ?_
  refine wl_val wn rfl (rv_len (t := tGDoc) Tryz.underlying27 rfl (SliceAt.mono hl18 hs4)) ?_
  refine wl_val wn rfl (rv_lss rfl rfl) ?_
  refine nq ?_
  refine wc_cond rfl (fun hb25 => ?_) (fun hb25 => ?_)
  ·have h26 := cond_t hb25 h23
   refine wc_skip ?_
   refine qs ?_
   refine wc_block ?_
   refine wc_seq ?_
   obtain ⟨o27, h28, h29⟩ := ob h26
   refine wc_cutg (fun E' w' => ∃ (K30 : KMap), E' = [(0, .slice a1 n2 c3), (3, .int .i64 s13), (33, .bool o27)] ∧ SH w K [] w' K30 [] ∧ KLe K17 K30) ?_ ?_
   ·refine wc_quiet mixed (by kernel_rfl) hS20 ?_
    refine qm rfl rfl ?_
    refine qm rfl rfl ?_
    obtain ⟨x34, hx35, h36⟩ := ob h28
    refine wq_indexAddr (t := tGDoc) wn rfl Tryz.underlying27 tf44 rfl rfl (SliceAt.mono hl18 hs4) hx35 ?_
    intro b37 o38 u39 hu40 ha41
    obtain ⟨a43, n44, c45, a47, n48, c49, rfl, hr42, hs46, hs50⟩ := hu40
    have ha51 : AtK _ b37 o38 [.int .i64 x34.Id, .slice a43 n44 c45, .slice a47 n48 c49] := ha41
    refine wq_val wn rfl (rq_loadS (cs := [.int .i64 x34.Id, .slice a43 n44 c45, .slice a47 n48 c49]) tf44 rfl ha51 rfl) ?_
    obtain ⟨r52, hx53, h54⟩ := ob h36
    refine wq_call (v := .bool r52) wn rfl (fun _ => rt_call (vs := [.agg #[.int .i64 x34.Id, .slice a43 n44 c45, .slice a47 n48 c49]]) co113 rfl) (fun w57 ⟨K55, hS56, hl58⟩ => ((ok_spec_l6Ok F) hS56.enter0 hr42 (SliceAt.mono hl58 hs46) (SliceAt.mono hl58 hs50) hx53).mono fun e w' ⟨K', he, hS'⟩ => ⟨he, K', hS56.call0 hS', hl58.trans hS'.le⟩) ?_
    refine wq_val wn rfl (fun _ _ => (rv_not rfl)) ?_
    refine qm rfl rfl ?_
    rcases bool_tf ((!r52)) with hb59 | hb59
    ·have h60 := cond_t hb59 h54
     refine wq_un (ug rfl rfl hb59) rfl ?_
     refine wq_un (ug rfl rfl hb59) rfl ?_
     refine wq_un (ug rfl rfl hb59) rfl ?_
     refine qu rfl rfl rfl ?_
     refine qu rfl rfl rfl ?_
     refine qu rfl rfl rfl ?_
     refine qu rfl rfl rfl ?_
     refine qu rfl rfl rfl ?_
     refine qu rfl rfl rfl ?_
     refine qu rfl rfl rfl ?_
     refine qu rfl rfl rfl ?_
     refine qu rfl rfl rfl ?_
     refine qu rfl rfl rfl ?_
     refine qu rfl rfl rfl ?_
     refine qu rfl rfl rfl ?_
     refine wq_un (ug rfl rfl hb59) rfl ?_
     refine wq_val wn rfl (fun _ _ => (rv_pick_t (v := .bool true) rfl hb59 rfl)) ?_
     refine wq_nil ?_
     rintro w62 ⟨K61, hS63, hl64⟩
     obtain rfl := oi h60
     exact qe_mid' ⟨K61, rfl, hS63, hl64⟩ ⟨rfl, rfl, rfl, trivial⟩
    ·have h60 := cond_f hb59 h54
     refine wq_val (wg rfl rfl hb59) rfl (fun _ _ => (rv_move rfl)) ?_
     refine wq_val (wg rfl rfl hb59) rfl (fun _ _ => (rv_gtr rfl rfl)) ?_
     refine wq_val (wg rfl rfl hb59) rfl (fun _ _ => (rv_move rfl)) ?_
     rcases bool_tf (decide ((0 : Int) < s13)) with hb65 | hb65
     ·have h66 := cond_t hb65 h60
      refine wq_val (wg rfl rfl hb65) rfl (fun _ _ => (rv_move rfl)) ?_
      refine wq_val (wg rfl rfl hb65) rfl (fun _ _ => (rv_move rfl)) ?_
      obtain ⟨x67, hx68, h69⟩ := ob h66
      refine wq_indexAddr (t := tGDoc) (wg rfl rfl hb65) rfl Tryz.underlying27 tf44 rfl rfl (SliceAt.mono hl18 hs4) hx68 ?_
      intro b70 o71 u72 hu73 ha74
      obtain ⟨a76, n77, c78, a80, n81, c82, rfl, hr75, hs79, hs83⟩ := hu73
      have ha84 : AtK _ b70 o71 [.int .i64 x67.Id, .slice a76 n77 c78, .slice a80 n81 c82] := ha74
      refine wq_val (wg rfl rfl hb65) rfl (fun _ _ => (rv_fieldAddr ff44_0 rfl)) ?_
      refine wq_val (wg rfl rfl hb65) rfl (rq_load1 tf3 rfl (ha84 0 _ rfl)) ?_
      refine wq_val (wg rfl rfl hb65) rfl (fun _ _ => (rv_move rfl)) ?_
      refine wq_val (wg rfl rfl hb65) rfl (fun _ _ => (rv_move rfl)) ?_
      refine wq_val (wg rfl rfl hb65) rfl (fun _ _ => (rv_sub rfl rfl)) ?_
      obtain ⟨x85, hx86, h87⟩ := ob h69
      refine wq_indexAddr (t := tGDoc) (wg rfl rfl hb65) rfl Tryz.underlying27 tf44 rfl rfl (SliceAt.mono hl18 hs4) hx86 ?_
      intro b88 o89 u90 hu91 ha92
      obtain ⟨a94, n95, c96, a98, n99, c100, rfl, hr93, hs97, hs101⟩ := hu91
      have ha102 : AtK _ b88 o89 [.int .i64 x85.Id, .slice a94 n95 c96, .slice a98 n99 c100] := ha92
      refine wq_val (wg rfl rfl hb65) rfl (fun _ _ => (rv_fieldAddr ff44_0 rfl)) ?_
      refine wq_val (wg rfl rfl hb65) rfl (rq_load1 tf3 rfl (ha102 0 _ rfl)) ?_
      refine wq_val (wg rfl rfl hb65) rfl (fun _ _ => (rv_leq rfl rfl)) ?_
      refine wq_val (wg rfl rfl hb59) rfl (fun _ _ => (rv_pick_t rfl hb65 rfl)) ?_
      refine wq_val wn rfl (fun _ _ => (rv_pick_f rfl hb59 rfl)) ?_
      refine wq_nil ?_
      rintro w104 ⟨K103, hS105, hl106⟩
      obtain rfl := oi h87
      exact qe_mid' ⟨K103, rfl, hS105, hl106⟩ ⟨rfl, rfl, rfl, trivial⟩
     ·have h66 := cond_f hb65 h60
      refine wq_un (ug rfl rfl hb65) rfl ?_
      refine wq_un (ug rfl rfl hb65) rfl ?_
      refine wq_un (ug rfl rfl hb65) rfl ?_
      refine wq_un (ug rfl rfl hb65) rfl ?_
      refine wq_un (ug rfl rfl hb65) rfl ?_
      refine wq_un (ug rfl rfl hb65) rfl ?_
      refine wq_un (ug rfl rfl hb65) rfl ?_
      refine wq_un (ug rfl rfl hb65) rfl ?_
      refine wq_un (ug rfl rfl hb65) rfl ?_
      refine wq_un (ug rfl rfl hb65) rfl ?_
      refine wq_un (ug rfl rfl hb65) rfl ?_
      refine wq_un (ug rfl rfl hb65) rfl ?_
      refine wq_val (wg rfl rfl hb59) rfl (fun _ _ => (rv_pick_f (v := .bool false) rfl hb65 rfl)) ?_
      refine wq_val wn rfl (fun _ _ => (rv_pick_f rfl hb59 rfl)) ?_
      refine wq_nil ?_
      rintro w108 ⟨K107, hS109, hl110⟩
      obtain rfl := oi h66
      exact qe_mid' ⟨K107, rfl, hS109, hl110⟩ ⟨rfl, rfl, rfl, trivial⟩
   ·rintro _ w32 ⟨K30, rfl, hS33, hl31⟩
    refine qe_seq ?_
    refine wc_cond rfl (fun hb111 => ?_) (fun hb111 => ?_)
    ·have h112 := cond_t hb111 h29
     refine sr ?_
     refine wl_val wn rfl (rv_assign (v := .bool false) rfl) ?_
     refine nq ?_
     refine wc_ret ?_
     refine qe_block_ret ?_
     refine qe_then_ret ?_
     refine qe_then_ret ?_
     obtain rfl := oi h112
     have e113 := hx24 _ rfl
     subst e113
     refine qe_block_ret ?_
     refine qe_then_ret ?_
     obtain rfl := oi h16
     refine qe_then_ret ?_
     obtain rfl := oi h7
     exact qe_ret (vs := [_]) Tryz.results65 ⟨rfl, trivial⟩ ⟨K30, rfl, hS33⟩
    ·have h112 := cond_f hb111 h29
     refine wc_skip ?_
     refine qe_block ?_
     refine qe_seq ?_
     refine wc_region ?_
     refine vm rfl rfl ?_
     refine wl_val wn rfl (rv_add rfl rfl) ?_
     refine va rfl rfl ?_
     refine wl_nil ?_
     obtain rfl := oi h112
     exact qe_mid' ⟨_, rfl, K30, rfl, hS33, (hl18.trans hl31), (w64_rng _)⟩ ⟨rfl, rfl, trivial⟩
  ·have h26 := cond_f hb25 h23
   refine wc_exit ?_
   refine qe_then_exit ?_
   refine qe_then_exit ?_
   obtain rfl := oi h26
   have e114 := hx24 _ rfl
   subst e114
   refine qe_block_eq ?_
   obtain rfl := oi h16
   exact qe_mid' ⟨_, K17, rfl, rfl, hS20, hl18⟩ ⟨rfl, trivial⟩
 ·rintro _ w11 ⟨s8, K9, rfl, rfl, hS12, hl10⟩
  refine qr ?_
  refine vm rfl rfl ?_
  refine wl_val wn rfl (rv_len (t := tGDoc) Tryz.underlying27 rfl (SliceAt.mono hl10 hs4)) ?_
  refine wl_val wn rfl (rv_leq rfl rfl) ?_
  refine va rfl rfl ?_
  refine nq ?_
  refine wc_ret ?_
  obtain rfl := oi h7
  exact qe_ret (vs := [_]) Tryz.results65 ⟨rfl, trivial⟩ ⟨K9, rfl, hS12⟩

theorem ok_spec_l7SameInts (F : Nat) {w : World} {K : KMap} {a1 : Option Addr} {n2 c3 : Nat} {a5 : Option Addr} {n6 c7 : Nat} {p0_a : List Int} {p1_b : List Int} {r : Bool} (hS : SH w K [] w K []) (hs4 : SliceAt tInt K a1 n2 c3 p0_a) (hs8 : SliceAt tInt K a5 n6 c7 p1_b) (hm : M.spec_l7SameInts F p0_a p1_b = some r) :
  Calls Tryz.prog 139 #[.slice a1 n2 c3, .slice a5 n6 c7] w fun e w' => ∃ (K' : KMap), e = .returned (.bool r) ∧ SH w K [] w' K' [] := by
 rw [M.spec_l7SameInts] at hm
 refine calls_in Tryz.func139 rfl Tryz.ntmps139 rfl ?_
 refine sr ?_
 refine wl_val wn rfl (rv_assign (v := .bool false) rfl) ?_
 refine nsr ?_
 refine vm rfl rfl ?_
 refine wl_val wn rfl (rv_len (t := tInt) Tryz.underlying37 rfl hs4) ?_
 refine vm rfl rfl ?_
 refine wl_val wn rfl (rv_len (t := tInt) Tryz.underlying37 rfl hs8) ?_
 refine wl_val wn rfl (rv_neq rfl rfl) ?_
 refine nq ?_
 refine wc_cond rfl (fun hb9 => ?_) (fun hb9 => ?_)
 ·have h10 := cond_t hb9 hm
  refine sr ?_
  refine wl_val wn rfl (rv_assign (v := .bool false) rfl) ?_
  refine nq ?_
  refine rr ?_
  obtain rfl := oi h10
  exact qe_ret (vs := [_]) Tryz.results139 ⟨rfl, trivial⟩ ⟨K, rfl, hS⟩
 ·have h10 := cond_f hb9 hm
  refine wc_skip ?_
  refine qs ?_
  refine sr ?_
  refine wl_val wn rfl (rv_assign (v := .int .i64 0) rfl) ?_
  refine nq ?_
  obtain ⟨o11, h12, h13⟩ := ob h10
  refine wc_cutg (fun E' w' => ∃ (s14 : Unit) (K15 : KMap), o11 = .inl s14 ∧ E' = [] ∧ SH w K [] w' K15 [] ∧ KLe K K15) ?_ ?_
  ·refine wc_block ?_
   obtain ⟨r20, h21, h22⟩ := ob h12
   refine wc_while' (fun (s19 : Int) E' w' => ∃ (K23 : KMap), E' = [(0, .slice a1 n2 c3), (1, .slice a5 n6 c7), (5, .int .i64 s19)] ∧ SH w K [] w' K23 [] ∧ KLe K K23 ∧ rng64 s19) h21 ⟨K, rfl, hS, (KLe.refl _), (by decide : rng64 0)⟩ ⟨rfl, rfl, rfl, trivial⟩ ?_
   rintro s19 _ w25 r28 h29 hx30 ⟨K23, rfl, hS26, hl24, hr27⟩
   refine wc_seq ?_
   refine sr ?_
   refine vm rfl rfl ?_
   refine vm rfl rfl ?_
   refine wl_val wn rfl (rv_len (t := tInt) Tryz.underlying37 rfl (SliceAt.mono hl24 hs4)) ?_
   refine wl_val wn rfl (rv_lss rfl rfl) ?_
   refine nq ?_
   refine wc_cond rfl (fun hb31 => ?_) (fun hb31 => ?_)
   ·have h32 := cond_t hb31 h29
    refine wc_skip ?_
    refine qs ?_
    refine wc_block ?_
    refine wc_seq ?_
    refine wc_quiet mixed (by kernel_rfl) hS26 ?_
    refine qm rfl rfl ?_
    refine qm rfl rfl ?_
    obtain ⟨x33, hx34, h35⟩ := ob h32
    refine wq_indexAddr (t := tInt) wn rfl Tryz.underlying37 tf3 rfl rfl (SliceAt.mono hl24 hs4) hx34 ?_
    intro b36 o37 u38 hu39 ha40
    obtain ⟨rfl, hr41⟩ := hu39
    have ha42 : AtK _ b36 o37 [.int .i64 x33] := ha40
    refine wq_val wn rfl (rq_load1 tf3 rfl (ha42 0 _ rfl)) ?_
    refine qm rfl rfl ?_
    refine qm rfl rfl ?_
    obtain ⟨x43, hx44, h45⟩ := ob h35
    refine wq_indexAddr (t := tInt) wn rfl Tryz.underlying37 tf3 rfl rfl (SliceAt.mono hl24 hs8) hx44 ?_
    intro b46 o47 u48 hu49 ha50
    obtain ⟨rfl, hr51⟩ := hu49
    have ha52 : AtK _ b46 o47 [.int .i64 x43] := ha50
    refine wq_val wn rfl (rq_load1 tf3 rfl (ha52 0 _ rfl)) ?_
    refine wq_val wn rfl (fun _ _ => (rv_neq rfl rfl)) ?_
    refine wq_nil ?_
    rintro w54 ⟨K53, hS55, hl56⟩
    refine qe_seq ?_
    refine wc_cond rfl (fun hb57 => ?_) (fun hb57 => ?_)
    ·have h58 := cond_t hb57 h45
     refine sr ?_
     refine wl_val wn rfl (rv_assign (v := .bool false) rfl) ?_
     refine nq ?_
     refine wc_ret ?_
     refine qe_block_ret ?_
     refine qe_then_ret ?_
     refine qe_then_ret ?_
     obtain rfl := oi h58
     have e59 := hx30 _ rfl
     subst e59
     refine qe_block_ret ?_
     refine qe_then_ret ?_
     obtain rfl := oi h22
     refine qe_then_ret ?_
     obtain rfl := oi h13
     exact qe_ret (vs := [_]) Tryz.results139 ⟨rfl, trivial⟩ ⟨K53, rfl, hS55⟩
    ·have h58 := cond_f hb57 h45
     refine wc_skip ?_
     refine qe_block ?_
     refine qe_seq ?_
     refine wc_region ?_
     refine vm rfl rfl ?_
     refine wl_val wn rfl (rv_add rfl rfl) ?_
     refine va rfl rfl ?_
     refine wl_nil ?_
     obtain rfl := oi h58
     exact qe_mid' ⟨_, rfl, K53, rfl, hS55, (hl24.trans hl56), (w64_rng _)⟩ ⟨rfl, rfl, rfl, trivial⟩
   ·have h32 := cond_f hb31 h29
    refine wc_exit ?_
    refine qe_then_exit ?_
    refine qe_then_exit ?_
    obtain rfl := oi h32
    have e60 := hx30 _ rfl
    subst e60
    refine qe_block_eq ?_
    obtain rfl := oi h22
    exact qe_mid' ⟨_, K23, rfl, rfl, hS26, hl24⟩ trivial
  ·rintro _ w17 ⟨s14, K15, rfl, rfl, hS18, hl16⟩
   refine qr ?_
   refine wl_val wn rfl (rv_assign (v := .bool true) rfl) ?_
   refine nq ?_
   refine wc_ret ?_
   obtain rfl := oi h13
   exact qe_ret (vs := [_]) Tryz.results139 ⟨rfl, trivial⟩ ⟨K15, rfl, hS18⟩

set_option maxHeartbeats 2000000 in
theorem ok_spec_l7SameEntry (F : Nat) {w : World} {K : KMap} {a3 : Option Addr} {n4 c5 : Nat} {a9 : Option Addr} {n10 c11 : Nat} {p0_a : GEntry} {p1_b : GEntry} {r : Bool} (hS : SH w K [] w K []) (hl1 : p0_a.Field.length ≤ maxLen) (hl2 : p0_a.Term.length ≤ maxLen) (hs6 : SliceAt tGPost K a3 n4 c5 p0_a.Posts) (hl7 : p1_b.Field.length ≤ maxLen) (hl8 : p1_b.Term.length ≤ maxLen) (hs12 : SliceAt tGPost K a9 n10 c11 p1_b.Posts) (hm : M.spec_l7SameEntry F p0_a p1_b = some r) :
  Calls Tryz.prog 96 #[.agg #[sv p0_a.Field, sv p0_a.Term, .slice a3 n4 c5], .agg #[sv p1_b.Field, sv p1_b.Term, .slice a9 n10 c11]] w fun e w' => ∃ (K' : KMap), e = .returned (.bool r) ∧ SH w K [] w' K' [] := by
 rw [M.spec_l7SameEntry] at hm
 refine calls_in Tryz.func96 rfl Tryz.ntmps96 rfl ?_
 refine sr ?_
 refine wl_box wn rfl rfl hS ?_
 intro g13 w14 hS15
 have hS16 : SH _ _ _ _ _ [obj g13 [sv p0_a.Field, sv p0_a.Term, .slice a3 n4 c5] 94] := hS15
 refine wl_box wn rfl rfl hS16 ?_
 intro g17 w18 hS19
 have hS20 : SH _ _ _ _ _ [obj g17 [sv p1_b.Field, sv p1_b.Term, .slice a9 n10 c11] 94, _] := hS19
 refine wl_val wn rfl (rv_assign (v := .bool false) rfl) ?_
 refine ns ?_
 refine wc_seq ?_
 obtain ⟨o21, h22, h23⟩ := ob hm
 refine wc_cutg (fun E' w' => ∃ (K24 : KMap), E' = [(2, .pointer (some ⟨g13, 0, none⟩)), (3, .pointer (some ⟨g17, 0, none⟩)), (26, .bool o21)] ∧ SH w K [] w' K24 [obj g13 [sv p0_a.Field, sv p0_a.Term, .slice a3 n4 c5] 94, obj g17 [sv p1_b.Field, sv p1_b.Term, .slice a9 n10 c11] 94] ∧ KLe K K24) ?_ ?_
 ·refine wc_region ?_
  refine wl_val wn rfl (rv_fieldAddr ff94_0 rfl) ?_
  refine wl_val wn rfl (rv_loadm1 tf9 rfl (.tail _ (.head _)) hS20 rfl) ?_
  refine wl_val wn rfl (rv_fieldAddr ff94_0 rfl) ?_
  refine wl_val wn rfl (rv_loadm1 tf9 rfl (.head _) hS20 rfl) ?_
  refine wl_val wn rfl (rv_sneq rfl rfl) ?_
  refine vm rfl rfl ?_
  rcases bool_tf ((!(p0_a.Field == p1_b.Field))) with hb28 | hb28
  ·have h29 := cond_t hb28 h22
   refine wl_un (ug rfl rfl hb28) rfl ?_
   refine wl_un (ug rfl rfl hb28) rfl ?_
   refine wl_un (ug rfl rfl hb28) rfl ?_
   refine wl_un (ug rfl rfl hb28) rfl ?_
   refine wl_un (ug rfl rfl hb28) rfl ?_
   refine wl_val wn rfl (rv_pick_t (v := .bool true) rfl hb28 rfl) ?_
   refine vm rfl rfl ?_
   refine wl_un (ug rfl rfl rfl) rfl ?_
   refine wl_un (ug rfl rfl rfl) rfl ?_
   refine wl_un (ug rfl rfl rfl) rfl ?_
   refine wl_un (ug rfl rfl rfl) rfl ?_
   refine wl_un (ug rfl rfl rfl) rfl ?_
   refine wl_un (ug rfl rfl rfl) rfl ?_
   refine wl_un (ug rfl rfl rfl) rfl ?_
   refine wl_val wn rfl (rv_pick_t (v := .bool true) rfl rfl rfl) ?_
   refine wl_nil ?_
   obtain rfl := oi h29
   have hS30 : SH _ _ _ _ _ [_, _] := SH.front (p := [_]) hS20
   exact qe_mid' ⟨K, rfl, hS30, (KLe.refl _)⟩ ⟨rfl, rfl, rfl, trivial⟩
  ·have h29 := cond_f hb28 h22
   refine wl_val (wg rfl rfl hb28) rfl (rv_fieldAddr ff94_1 rfl) ?_
   refine wl_val (wg rfl rfl hb28) rfl (rv_loadm1 tf9 rfl (.tail _ (.head _)) hS20 rfl) ?_
   refine wl_val (wg rfl rfl hb28) rfl (rv_fieldAddr ff94_1 rfl) ?_
   refine wl_val (wg rfl rfl hb28) rfl (rv_loadm1 tf9 rfl (.head _) hS20 rfl) ?_
   refine wl_val (wg rfl rfl hb28) rfl (rv_sneq rfl rfl) ?_
   refine wl_val wn rfl (rv_pick_f rfl hb28 rfl) ?_
   refine vm rfl rfl ?_
   rcases bool_tf ((!(p0_a.Term == p1_b.Term))) with hb31 | hb31
   ·have h32 := cond_t hb31 h29
    refine wl_un (ug rfl rfl hb31) rfl ?_
    refine wl_un (ug rfl rfl hb31) rfl ?_
    refine wl_un (ug rfl rfl hb31) rfl ?_
    refine wl_un (ug rfl rfl hb31) rfl ?_
    refine wl_un (ug rfl rfl hb31) rfl ?_
    refine wl_un (ug rfl rfl hb31) rfl ?_
    refine wl_un (ug rfl rfl hb31) rfl ?_
    refine wl_val wn rfl (rv_pick_t (v := .bool true) rfl hb31 rfl) ?_
    refine wl_nil ?_
    obtain rfl := oi h32
    have hS33 : SH _ _ _ _ _ [_, _] := SH.front (p := [_]) hS20
    exact qe_mid' ⟨K, rfl, hS33, (KLe.refl _)⟩ ⟨rfl, rfl, rfl, trivial⟩
   ·have h32 := cond_f hb31 h29
    refine wl_val (wg rfl rfl hb31) rfl (rv_fieldAddr ff94_2 rfl) ?_
    refine wl_val (wg rfl rfl hb31) rfl (rv_loadm1 tf33 rfl (.tail _ (.head _)) hS20 rfl) ?_
    refine wl_val (wg rfl rfl hb31) rfl (rv_len (t := tGPost) Tryz.underlying33 rfl hs6) ?_
    refine wl_val (wg rfl rfl hb31) rfl (rv_fieldAddr ff94_2 rfl) ?_
    refine wl_val (wg rfl rfl hb31) rfl (rv_loadm1 tf33 rfl (.head _) hS20 rfl) ?_
    refine wl_val (wg rfl rfl hb31) rfl (rv_len (t := tGPost) Tryz.underlying33 rfl hs12) ?_
    refine wl_val (wg rfl rfl hb31) rfl (rv_neq rfl rfl) ?_
    refine wl_val wn rfl (rv_pick_f rfl hb31 rfl) ?_
    refine wl_nil ?_
    obtain rfl := oi h32
    have hS34 : SH _ _ _ _ _ [_, _] := SH.front (p := [_]) hS20
    exact qe_mid' ⟨K, rfl, hS34, (KLe.refl _)⟩ ⟨rfl, rfl, rfl, trivial⟩
 ·rintro _ w26 ⟨K24, rfl, hS27, hl25⟩
  refine qe_seq ?_
  refine wc_cond rfl (fun hb35 => ?_) (fun hb35 => ?_)
  ·have h36 := cond_t hb35 h23
   refine sr ?_
   refine wl_val wn rfl (rv_assign (v := .bool false) rfl) ?_
   refine nq ?_
   refine rr ?_
   obtain rfl := oi h36
   have hS37 : SH _ _ _ _ _ [] := SH.sublist hS27 (.cons _ (.cons _ .slnil))
   exact qe_ret (vs := [_]) Tryz.results96 ⟨rfl, trivial⟩ ⟨K24, rfl, hS37⟩
  ·have h36 := cond_f hb35 h23
   refine wc_skip ?_
   refine qs ?_
   refine sr ?_
   refine wl_val wn rfl (rv_assign (v := .int .i64 0) rfl) ?_
   refine nq ?_
   obtain ⟨o38, h39, h40⟩ := ob h36
   refine wc_cutg (fun E' w' => ∃ (s41 : Unit) (K42 : KMap), o38 = .inl s41 ∧ E' = [] ∧ SH w K [] w' K42 [] ∧ KLe K24 K42) ?_ ?_
   ·refine wc_block ?_
    obtain ⟨r47, h48, h49⟩ := ob h39
    refine wc_while' (fun (s46 : Int) E' w' => ∃ (K50 : KMap), E' = [(2, .pointer (some ⟨g13, 0, none⟩)), (3, .pointer (some ⟨g17, 0, none⟩)), (5, .int .i64 s46)] ∧ SH w K [] w' K50 [obj g13 [sv p0_a.Field, sv p0_a.Term, .slice a3 n4 c5] 94, obj g17 [sv p1_b.Field, sv p1_b.Term, .slice a9 n10 c11] 94] ∧ KLe K24 K50 ∧ rng64 s46) h48 ⟨K24, rfl, hS27, (KLe.refl _), (by decide : rng64 0)⟩ ⟨rfl, rfl, rfl, trivial⟩ ?_
    rintro s46 _ w52 r55 h56 hx57 ⟨K50, rfl, hS53, hl51, hr54⟩
    refine wc_seq ?_
    refine sr ?_
    refine vm rfl rfl ?_
    refine wl_val wn rfl (rv_fieldAddr ff94_2 rfl) ?_
    refine wl_val wn rfl (rv_loadm1 tf33 rfl (.head _) hS53 rfl) ?_
    refine wl_val wn rfl (rv_len (t := tGPost) Tryz.underlying33 rfl (SliceAt.mono (hl25.trans hl51) hs6)) ?_
    refine wl_val wn rfl (rv_lss rfl rfl) ?_
    refine nq ?_
    refine wc_cond rfl (fun hb58 => ?_) (fun hb58 => ?_)
    ·have h59 := cond_t hb58 h56
     refine wc_skip ?_
     refine qs ?_
     refine wc_block ?_
     refine wc_seq ?_
     obtain ⟨o60, h61, h62⟩ := ob h59
     refine wc_cutg (fun E' w' => ∃ (K63 : KMap), E' = [(2, .pointer (some ⟨g13, 0, none⟩)), (3, .pointer (some ⟨g17, 0, none⟩)), (5, .int .i64 s46), (62, .bool o60)] ∧ SH w K [] w' K63 [obj g13 [sv p0_a.Field, sv p0_a.Term, .slice a3 n4 c5] 94, obj g17 [sv p1_b.Field, sv p1_b.Term, .slice a9 n10 c11] 94] ∧ KLe K50 K63) ?_ ?_
     ·refine wc_quiet mixed (by kernel_rfl) hS53 ?_
      refine wq_val wn rfl (fun _ _ => (rv_fieldAddr ff94_2 rfl)) ?_
      refine wq_val wn rfl (rq_loadm1 tf33 rfl (.head _) rfl) ?_
      refine qm rfl rfl ?_
      obtain ⟨x67, hx68, h69⟩ := ob h61
      refine wq_indexAddr (t := tGPost) wn rfl Tryz.underlying33 tf48 rfl rfl (SliceAt.mono (hl25.trans hl51) hs6) hx68 ?_
      intro b70 o71 u72 hu73 ha74
      obtain ⟨a76, n77, c78, rfl, hr75, hs79⟩ := hu73
      have ha80 : AtK _ b70 o71 [.int .i64 x67.Doc, .slice a76 n77 c78] := ha74
      refine wq_val wn rfl (fun _ _ => (rv_fieldAddr ff48_0 rfl)) ?_
      refine wq_val wn rfl (rq_load1 tf3 rfl (ha80 0 _ rfl)) ?_
      refine wq_val wn rfl (fun _ _ => (rv_fieldAddr ff94_2 rfl)) ?_
      refine wq_val wn rfl (rq_loadm1 tf33 rfl (.tail _ (.head _)) rfl) ?_
      refine qm rfl rfl ?_
      obtain ⟨x81, hx82, h83⟩ := ob h69
      refine wq_indexAddr (t := tGPost) wn rfl Tryz.underlying33 tf48 rfl rfl (SliceAt.mono (hl25.trans hl51) hs12) hx82 ?_
      intro b84 o85 u86 hu87 ha88
      obtain ⟨a90, n91, c92, rfl, hr89, hs93⟩ := hu87
      have ha94 : AtK _ b84 o85 [.int .i64 x81.Doc, .slice a90 n91 c92] := ha88
      refine wq_val wn rfl (fun _ _ => (rv_fieldAddr ff48_0 rfl)) ?_
      refine wq_val wn rfl (rq_load1 tf3 rfl (ha94 0 _ rfl)) ?_
      refine wq_val wn rfl (fun _ _ => (rv_neq rfl rfl)) ?_
      refine qm rfl rfl ?_
      rcases bool_tf ((!(x67.Doc == x81.Doc))) with hb95 | hb95
      ·have h96 := cond_t hb95 h83
       refine wq_un (ug rfl rfl hb95) rfl ?_
       refine wq_un (ug rfl rfl hb95) rfl ?_
       refine wq_un (ug rfl rfl hb95) rfl ?_
       refine wq_un (ug rfl rfl hb95) rfl ?_
       refine wq_un (ug rfl rfl hb95) rfl ?_
       refine wq_un (ug rfl rfl hb95) rfl ?_
       refine wq_un (ug rfl rfl hb95) rfl ?_
       refine wq_un (ug rfl rfl hb95) rfl ?_
       refine wq_un (ug rfl rfl hb95) rfl ?_
       refine wq_un (ug rfl rfl hb95) rfl ?_
       refine wq_un (ug rfl rfl hb95) rfl ?_
       refine wq_un (ug rfl rfl hb95) rfl ?_
       refine wq_un (ug rfl rfl hb95) rfl ?_
       refine wq_un (ug rfl rfl hb95) rfl ?_
       refine wq_val wn rfl (fun _ _ => (rv_pick_t (v := .bool true) rfl hb95 rfl)) ?_
       refine wq_nil ?_
       rintro w98 ⟨K97, hS99, hl100⟩
       obtain rfl := oi h96
       exact qe_mid' ⟨K97, rfl, hS99, hl100⟩ ⟨rfl, rfl, rfl, rfl, trivial⟩
      ·have h96 := cond_f hb95 h83
       refine wq_val (wg rfl rfl hb95) rfl (fun _ _ => (rv_fieldAddr ff94_2 rfl)) ?_
       refine wq_val (wg rfl rfl hb95) rfl (rq_loadm1 tf33 rfl (.head _) rfl) ?_
       refine wq_val (wg rfl rfl hb95) rfl (fun _ _ => (rv_move rfl)) ?_
       obtain ⟨x101, hx102, h103⟩ := ob h96
       refine wq_indexAddr (t := tGPost) (wg rfl rfl hb95) rfl Tryz.underlying33 tf48 rfl rfl (SliceAt.mono (hl25.trans hl51) hs6) hx102 ?_
       intro b104 o105 u106 hu107 ha108
       obtain ⟨a110, n111, c112, rfl, hr109, hs113⟩ := hu107
       have ha114 : AtK _ b104 o105 [.int .i64 x101.Doc, .slice a110 n111 c112] := ha108
       refine wq_val (wg rfl rfl hb95) rfl (fun _ _ => (rv_fieldAddr ff48_1 rfl)) ?_
       refine wq_val (wg rfl rfl hb95) rfl (rq_load1 tf37 rfl (ha114 1 _ rfl)) ?_
       refine wq_val (wg rfl rfl hb95) rfl (fun _ _ => (rv_fieldAddr ff94_2 rfl)) ?_
       refine wq_val (wg rfl rfl hb95) rfl (rq_loadm1 tf33 rfl (.tail _ (.head _)) rfl) ?_
       refine wq_val (wg rfl rfl hb95) rfl (fun _ _ => (rv_move rfl)) ?_
       obtain ⟨x115, hx116, h117⟩ := ob h103
       refine wq_indexAddr (t := tGPost) (wg rfl rfl hb95) rfl Tryz.underlying33 tf48 rfl rfl (SliceAt.mono (hl25.trans hl51) hs12) hx116 ?_
       intro b118 o119 u120 hu121 ha122
       obtain ⟨a124, n125, c126, rfl, hr123, hs127⟩ := hu121
       have ha128 : AtK _ b118 o119 [.int .i64 x115.Doc, .slice a124 n125 c126] := ha122
       refine wq_val (wg rfl rfl hb95) rfl (fun _ _ => (rv_fieldAddr ff48_1 rfl)) ?_
       refine wq_val (wg rfl rfl hb95) rfl (rq_load1 tf37 rfl (ha128 1 _ rfl)) ?_
       obtain ⟨r129, hx130, h131⟩ := ob h117
       refine wq_call (v := .bool r129) (wg rfl rfl hb95) rfl (fun _ => rt_call (vs := [.slice a110 n111 c112, .slice a124 n125 c126]) co139 rfl) (fun w134 ⟨K132, hS133, hl135⟩ => ((ok_spec_l7SameInts F) hS133.enter0 (SliceAt.mono hl135 hs113) (SliceAt.mono hl135 hs127) hx130).mono fun e w' ⟨K', he, hS'⟩ => ⟨he, K', hS133.call0 hS', hl135.trans hS'.le⟩) ?_
       refine wq_val (wg rfl rfl hb95) rfl (fun _ _ => (rv_not rfl)) ?_
       refine wq_val wn rfl (fun _ _ => (rv_pick_f rfl hb95 rfl)) ?_
       refine wq_nil ?_
       rintro w137 ⟨K136, hS138, hl139⟩
       obtain rfl := oi h131
       exact qe_mid' ⟨K136, rfl, hS138, hl139⟩ ⟨rfl, rfl, rfl, rfl, trivial⟩
     ·rintro _ w65 ⟨K63, rfl, hS66, hl64⟩
      refine qe_seq ?_
      refine wc_cond rfl (fun hb140 => ?_) (fun hb140 => ?_)
      ·have h141 := cond_t hb140 h62
       refine sr ?_
       refine wl_val wn rfl (rv_assign (v := .bool false) rfl) ?_
       refine nq ?_
       refine wc_ret ?_
       refine qe_block_ret ?_
       refine qe_then_ret ?_
       refine qe_then_ret ?_
       obtain rfl := oi h141
       have e142 := hx57 _ rfl
       subst e142
       refine qe_block_ret ?_
       refine qe_then_ret ?_
       obtain rfl := oi h49
       refine qe_then_ret ?_
       obtain rfl := oi h40
       have hS143 : SH _ _ _ _ _ [] := SH.sublist hS66 (.cons _ (.cons _ .slnil))
       exact qe_ret (vs := [_]) Tryz.results96 ⟨rfl, trivial⟩ ⟨K63, rfl, hS143⟩
      ·have h141 := cond_f hb140 h62
       refine wc_skip ?_
       refine qe_block ?_
       refine qe_seq ?_
       refine wc_region ?_
       refine vm rfl rfl ?_
       refine wl_val wn rfl (rv_add rfl rfl) ?_
       refine va rfl rfl ?_
       refine wl_nil ?_
       obtain rfl := oi h141
       exact qe_mid' ⟨_, rfl, K63, rfl, hS66, (hl51.trans hl64), (w64_rng _)⟩ ⟨rfl, rfl, rfl, trivial⟩
    ·have h59 := cond_f hb58 h56
     refine wc_exit ?_
     refine qe_then_exit ?_
     refine qe_then_exit ?_
     obtain rfl := oi h59
     have e144 := hx57 _ rfl
     subst e144
     refine qe_block_eq ?_
     obtain rfl := oi h49
     have hS145 : SH _ _ _ _ _ [] := SH.sublist hS53 (.cons _ (.cons _ .slnil))
     exact qe_mid' ⟨_, K50, rfl, rfl, hS145, hl51⟩ trivial
   ·rintro _ w44 ⟨s41, K42, rfl, rfl, hS45, hl43⟩
    refine qr ?_
    refine wl_val wn rfl (rv_assign (v := .bool true) rfl) ?_
    refine nq ?_
    refine wc_ret ?_
    obtain rfl := oi h40
    exact qe_ret (vs := [_]) Tryz.results96 ⟨rfl, trivial⟩ ⟨K42, rfl, hS45⟩

set_option maxHeartbeats 2000000 in
theorem ok_spec_l7Ok (F : Nat) {w : World} {K : KMap} {a1 : Option Addr} {n2 c3 : Nat} {a5 : Option Addr} {n6 c7 : Nat} {a9 : Option Addr} {n10 c11 : Nat} {a13 : Option Addr} {n14 c15 : Nat} {p0_c : GConf} {p1_s : GSeg} {r : Bool} (hS : SH w K [] w K []) (hs4 : SliceAt tStr K a1 n2 c3 p0_c.Stops) (hs8 : SliceAt tGSyn K a5 n6 c7 p0_c.Syns) (hs12 : SliceAt tGDoc K a9 n10 c11 p1_s.Docs) (hs16 : SliceAt tGEntry K a13 n14 c15 p1_s.Entries) (hm : M.spec_l7Ok F p0_c p1_s = some r) :
  Calls Tryz.prog 48 #[.agg #[.slice a1 n2 c3, .slice a5 n6 c7], .agg #[.slice a9 n10 c11, .slice a13 n14 c15]] w fun e w' => ∃ (K' : KMap), e = .returned (.bool r) ∧ SH w K [] w' K' [] := by
 rw [M.spec_l7Ok] at hm
 refine calls_in Tryz.func48 rfl Tryz.ntmps48 rfl ?_
 refine sr ?_
 refine wl_box wn rfl rfl hS ?_
 intro g17 w18 hS19
 have hS20 : SH _ _ _ _ _ [obj g17 [.slice a1 n2 c3, .slice a5 n6 c7] 26] := hS19
 refine wl_box wn rfl rfl hS20 ?_
 intro g21 w22 hS23
 have hS24 : SH _ _ _ _ _ [obj g21 [.slice a9 n10 c11, .slice a13 n14 c15] 30, _] := hS23
 refine wl_val wn rfl (rv_assign (v := .bool false) rfl) ?_
 refine ns ?_
 refine wc_seq ?_
 obtain ⟨o25, h26, h27⟩ := ob hm
 refine wc_cutg (fun E' w' => ∃ (K28 : KMap), E' = [(2, .pointer (some ⟨g17, 0, none⟩)), (3, .pointer (some ⟨g21, 0, none⟩)), (15, .bool o25)] ∧ SH w K [] w' K28 [obj g17 [.slice a1 n2 c3, .slice a5 n6 c7] 26, obj g21 [.slice a9 n10 c11, .slice a13 n14 c15] 30] ∧ KLe K K28) ?_ ?_
 ·refine wc_region ?_
  refine wl_val wn rfl (rv_loadmS (ds := [.slice a1 n2 c3, .slice a5 n6 c7]) tf26 rfl (.tail _ (.head _)) hS24 rfl rfl) ?_
  obtain ⟨r32, hx33, h34⟩ := ob h26
  refine wl_call wn rfl (rt_call (vs := [.agg #[.slice a1 n2 c3, .slice a5 n6 c7]]) co64 rfl) ((ok_spec_l2Ok F) hS24.enter0 hs4 hs8 hx33) ?_
  rintro e38 w36 ⟨K35, rfl, hS37⟩
  refine ⟨_, rfl, ?_⟩
  have hS39 : SH _ _ _ _ _ [_, _] := SH.call0 hS24 hS37
  refine wl_val wn rfl (rv_not rfl) ?_
  refine vm rfl rfl ?_
  rcases bool_tf ((!r32)) with hb40 | hb40
  ·have h41 := cond_t hb40 h34
   refine wl_un (ug rfl rfl hb40) rfl ?_
   refine wl_un (ug rfl rfl hb40) rfl ?_
   refine wl_un (ug rfl rfl hb40) rfl ?_
   refine wl_un (ug rfl rfl hb40) rfl ?_
   refine wl_val wn rfl (rv_pick_t (v := .bool true) rfl hb40 rfl) ?_
   refine wl_nil ?_
   obtain rfl := oi h41
   have hS42 : SH _ _ _ _ _ [_, _] := SH.front (p := [_]) hS39
   exact qe_mid' ⟨K35, rfl, hS42, hS37.le⟩ ⟨rfl, rfl, rfl, trivial⟩
  ·have h41 := cond_f hb40 h34
   refine wl_val (wg rfl rfl hb40) rfl (rv_fieldAddr ff30_0 rfl) ?_
   refine wl_val (wg rfl rfl hb40) rfl (rv_loadm1 tf27 rfl (.head _) hS39 rfl) ?_
   obtain ⟨r43, hx44, h45⟩ := ob h41
   refine wl_call (wg rfl rfl hb40) rfl (rt_call (vs := [.slice a9 n10 c11]) co65 rfl) ((ok_spec_l6Docs F) hS39.enter0 (SliceAt.mono hS37.le hs12) hx44) ?_
   rintro e49 w47 ⟨K46, rfl, hS48⟩
   refine ⟨_, rfl, ?_⟩
   have hS50 : SH _ _ _ _ _ [_, _] := SH.call0 hS39 hS48
   refine wl_val (wg rfl rfl hb40) rfl (rv_not rfl) ?_
   refine wl_val wn rfl (rv_pick_f rfl hb40 rfl) ?_
   refine wl_nil ?_
   obtain rfl := oi h45
   have hS51 : SH _ _ _ _ _ [_, _] := SH.front (p := [_]) hS50
   exact qe_mid' ⟨K46, rfl, hS51, (hS37.le.trans hS48.le)⟩ ⟨rfl, rfl, rfl, trivial⟩
 ·rintro _ w30 ⟨K28, rfl, hS31, hl29⟩
  refine qe_seq ?_
  refine wc_cond rfl (fun hb52 => ?_) (fun hb52 => ?_)
  ·have h53 := cond_t hb52 h27
   refine sr ?_
   refine wl_val wn rfl (rv_assign (v := .bool false) rfl) ?_
   refine nq ?_
   refine rr ?_
   obtain rfl := oi h53
   have hS54 : SH _ _ _ _ _ [] := SH.sublist hS31 (.cons _ (.cons _ .slnil))
   exact qe_ret (vs := [_]) Tryz.results48 ⟨rfl, trivial⟩ ⟨K28, rfl, hS54⟩
  ·have h53 := cond_f hb52 h27
   refine wc_skip ?_
   refine qr ?_
   refine wl_val wn rfl (rv_loadmS (ds := [.slice a1 n2 c3, .slice a5 n6 c7]) tf26 rfl (.head _) hS31 rfl rfl) ?_
   refine wl_val wn rfl (rv_fieldAddr ff30_0 rfl) ?_
   refine wl_val wn rfl (rv_loadm1 tf27 rfl (.tail _ (.head _)) hS31 rfl) ?_
   obtain ⟨r55, hx56, h57⟩ := ob h53
   refine wl_call wn rfl (rt_call (vs := [.agg #[.slice a1 n2 c3, .slice a5 n6 c7], .slice a9 n10 c11]) co66 rfl) ((ok_spec_l7Of F) hS31.enter0 (SliceAt.mono hl29 hs4) (SliceAt.mono hl29 hs8) (SliceAt.mono hl29 hs12) hx56) ?_
   rintro e71 w59 ⟨a61, n62, c63, a65, n66, c67, cs68, K58, rfl, hS60, hs64, hrow69, hm70⟩
   refine ⟨_, rfl, ?_⟩
   have hS72 : SH _ _ _ _ _ [_, _, _, _] := SH.call0 hS31 hS60
   have hS73 : SH _ _ _ _ _ [_, _, _, _] := SH.front (p := [_]) hS72
   obtain ⟨K74, hl75, hs76, hS77⟩ := SH.freezeI hS73 hrow69 hm70
   refine wl_alloc wn rfl tf30 hS77 ?_
   intro g78 w79 hS80
   have hS81 : SH _ _ _ _ _ [obj g78 [.slice none 0 0, .slice none 0 0] 30, _, _, _, _] := hS80
   refine wl_store (cs' := [.slice a61 n62 c63, .slice a65 n66 c67]) (v := .agg #[.slice a61 n62 c63, .slice a65 n66 c67]) wn tf30 rfl rfl rfl (by simp [Value.cells, Value.oneCell']) hS81 rfl rfl ?_
   intro w82 hS83
   refine nsr ?_
   refine wl_val wn rfl (rv_fieldAddr ff30_1 rfl) ?_
   refine wl_val wn rfl (rv_loadm1 tf28 rfl (.head _) hS83 rfl) ?_
   refine wl_val wn rfl (rv_len (t := tGEntry) Tryz.underlying28 rfl hs76) ?_
   refine wl_val wn rfl (rv_fieldAddr ff30_1 rfl) ?_
   refine wl_val wn rfl (rv_loadm1 tf28 rfl (.tail _ (.tail _ (.tail _ (.tail _ (.head _))))) hS83 rfl) ?_
   refine wl_val wn rfl (rv_len (t := tGEntry) Tryz.underlying28 rfl (SliceAt.mono ((hl29.trans hS60.le).trans hl75) hs16)) ?_
   refine wl_val wn rfl (rv_neq rfl rfl) ?_
   refine nq ?_
   refine wc_cond rfl (fun hb84 => ?_) (fun hb84 => ?_)
   ·have h85 := cond_t hb84 h57
    refine sr ?_
    refine wl_val wn rfl (rv_assign (v := .bool false) rfl) ?_
    refine nq ?_
    refine rr ?_
    obtain rfl := oi h85
    have hS86 : SH _ _ _ _ _ [] := SH.sublist hS83 (.cons _ (.cons _ (.cons _ (.cons _ (.cons _ .slnil)))))
    exact qe_ret (vs := [_]) Tryz.results48 ⟨rfl, trivial⟩ ⟨K74, rfl, hS86⟩
   ·have h85 := cond_f hb84 h57
    refine wc_skip ?_
    refine qs ?_
    refine sr ?_
    refine wl_val wn rfl (rv_assign (v := .int .i64 0) rfl) ?_
    refine nq ?_
    obtain ⟨o87, h88, h89⟩ := ob h85
    refine wc_cutg (fun E' w' => ∃ (s90 : Unit) (K91 : KMap), o87 = .inl s90 ∧ E' = [] ∧ SH w K [] w' K91 [] ∧ KLe K74 K91) ?_ ?_
    ·refine wc_block ?_
     obtain ⟨r96, h97, h98⟩ := ob h88
     have hS104 : SH _ _ _ _ _ [_, _, _, _, _] := SH.front (p := [_, _, _, _]) hS83
     have hS105 : SH _ _ _ _ _ [_, _] := SH.sublist hS104 (.cons_cons _ (.cons_cons _ (.cons _ (.cons _ (.cons _ .slnil)))))
     refine wc_while' (fun (s95 : Int) E' w' => ∃ (K99 : KMap), E' = [(3, .pointer (some ⟨g21, 0, none⟩)), (5, .pointer (some ⟨g78, 0, none⟩)), (6, .int .i64 s95)] ∧ SH w K [] w' K99 [obj g21 [.slice a9 n10 c11, .slice a13 n14 c15] 30, obj g78 [.slice a61 n62 c63, .slice a65 n66 c67] 30] ∧ KLe K74 K99 ∧ rng64 s95) h97 ⟨K74, rfl, hS105, (KLe.refl _), (by decide : rng64 0)⟩ ⟨rfl, rfl, rfl, trivial⟩ ?_
     rintro s95 _ w101 r106 h107 hx108 ⟨K99, rfl, hS102, hl100, hr103⟩
     refine wc_seq ?_
     refine sr ?_
     refine vm rfl rfl ?_
     refine wl_val wn rfl (rv_fieldAddr ff30_1 rfl) ?_
     refine wl_val wn rfl (rv_loadm1 tf28 rfl (.tail _ (.head _)) hS102 rfl) ?_
     refine wl_val wn rfl (rv_len (t := tGEntry) Tryz.underlying28 rfl (SliceAt.mono hl100 hs76)) ?_
     refine wl_val wn rfl (rv_lss rfl rfl) ?_
     refine nq ?_
     refine wc_cond rfl (fun hb109 => ?_) (fun hb109 => ?_)
     ·have h110 := cond_t hb109 h107
      refine wc_skip ?_
      refine qs ?_
      refine wc_block ?_
      refine wc_seq ?_
      refine wc_quiet mixed (by kernel_rfl) hS102 ?_
      refine wq_val wn rfl (fun _ _ => (rv_fieldAddr ff30_1 rfl)) ?_
      refine wq_val wn rfl (rq_loadm1 tf28 rfl (.tail _ (.head _)) rfl) ?_
      refine qm rfl rfl ?_
      obtain ⟨x111, hx112, h113⟩ := ob h110
      refine wq_indexAddr (t := tGEntry) wn rfl Tryz.underlying28 tf94 rfl rfl (SliceAt.mono hl100 hs76) hx112 ?_
      intro b114 o115 u116 hu117 ha118
      obtain ⟨a121, n122, c123, rfl, hl119, hl120, hs124⟩ := hu117
      have ha125 : AtK _ b114 o115 [sv x111.Field, sv x111.Term, .slice a121 n122 c123] := ha118
      refine wq_val wn rfl (rq_loadS (cs := [sv x111.Field, sv x111.Term, .slice a121 n122 c123]) tf94 rfl ha125 rfl) ?_
      refine wq_val wn rfl (fun _ _ => (rv_fieldAddr ff30_1 rfl)) ?_
      refine wq_val wn rfl (rq_loadm1 tf28 rfl (.head _) rfl) ?_
      refine qm rfl rfl ?_
      obtain ⟨x126, hx127, h128⟩ := ob h113
      refine wq_indexAddr (t := tGEntry) wn rfl Tryz.underlying28 tf94 rfl rfl (SliceAt.mono (((hl29.trans hS60.le).trans hl75).trans hl100) hs16) hx127 ?_
      intro b129 o130 u131 hu132 ha133
      obtain ⟨a136, n137, c138, rfl, hl134, hl135, hs139⟩ := hu132
      have ha140 : AtK _ b129 o130 [sv x126.Field, sv x126.Term, .slice a136 n137 c138] := ha133
      refine wq_val wn rfl (rq_loadS (cs := [sv x126.Field, sv x126.Term, .slice a136 n137 c138]) tf94 rfl ha140 rfl) ?_
      obtain ⟨r141, hx142, h143⟩ := ob h128
      refine wq_call (v := .bool r141) wn rfl (fun _ => rt_call (vs := [.agg #[sv x111.Field, sv x111.Term, .slice a121 n122 c123], .agg #[sv x126.Field, sv x126.Term, .slice a136 n137 c138]]) co96 rfl) (fun w146 ⟨K144, hS145, hl147⟩ => ((ok_spec_l7SameEntry F) hS145.enter0 hl119 hl120 (SliceAt.mono hl147 hs124) hl134 hl135 (SliceAt.mono hl147 hs139) hx142).mono fun e w' ⟨K', he, hS'⟩ => ⟨he, K', hS145.call0 hS', hl147.trans hS'.le⟩) ?_
      refine wq_val wn rfl (fun _ _ => (rv_not rfl)) ?_
      refine wq_nil ?_
      rintro w149 ⟨K148, hS150, hl151⟩
      refine qe_seq ?_
      refine wc_cond rfl (fun hb152 => ?_) (fun hb152 => ?_)
      ·have h153 := cond_t hb152 h143
       refine sr ?_
       refine wl_val wn rfl (rv_assign (v := .bool false) rfl) ?_
       refine nq ?_
       refine wc_ret ?_
       refine qe_block_ret ?_
       refine qe_then_ret ?_
       refine qe_then_ret ?_
       obtain rfl := oi h153
       have e154 := hx108 _ rfl
       subst e154
       refine qe_block_ret ?_
       refine qe_then_ret ?_
       obtain rfl := oi h98
       refine qe_then_ret ?_
       obtain rfl := oi h89
       have hS155 : SH _ _ _ _ _ [] := SH.sublist hS150 (.cons _ (.cons _ .slnil))
       exact qe_ret (vs := [_]) Tryz.results48 ⟨rfl, trivial⟩ ⟨K148, rfl, hS155⟩
      ·have h153 := cond_f hb152 h143
       refine wc_skip ?_
       refine qe_block ?_
       refine qe_seq ?_
       refine wc_region ?_
       refine vm rfl rfl ?_
       refine wl_val wn rfl (rv_add rfl rfl) ?_
       refine va rfl rfl ?_
       refine wl_nil ?_
       obtain rfl := oi h153
       exact qe_mid' ⟨_, rfl, K148, rfl, hS150, (hl100.trans hl151), (w64_rng _)⟩ ⟨rfl, rfl, rfl, trivial⟩
     ·have h110 := cond_f hb109 h107
      refine wc_exit ?_
      refine qe_then_exit ?_
      refine qe_then_exit ?_
      obtain rfl := oi h110
      have e156 := hx108 _ rfl
      subst e156
      refine qe_block_eq ?_
      obtain rfl := oi h98
      have hS157 : SH _ _ _ _ _ [] := SH.sublist hS102 (.cons _ (.cons _ .slnil))
      exact qe_mid' ⟨_, K99, rfl, rfl, hS157, hl100⟩ trivial
    ·rintro _ w93 ⟨s90, K91, rfl, rfl, hS94, hl92⟩
     refine qr ?_
     refine wl_val wn rfl (rv_assign (v := .bool true) rfl) ?_
     refine nq ?_
     refine wc_ret ?_
     obtain rfl := oi h89
     exact qe_ret (vs := [_]) Tryz.results48 ⟨rfl, trivial⟩ ⟨K91, rfl, hS94⟩

theorem ok_spec_l7CopyPosts (F : Nat) {w : World} {K : KMap} {a1 : Option Addr} {n2 c3 : Nat} {p0_list : List GPost} {r : (List GPost)} (hS : SH w K [] w K []) (hs4 : SliceAt tGPost K a1 n2 c3 p0_list) (hm : M.spec_l7CopyPosts F p0_list = some r) :
  Calls Tryz.prog 49 #[.slice a1 n2 c3] w fun e w' => ∃ (a_1 : Option Addr) (n_2 c_3 : Nat) (K' : KMap), e = .returned (.slice a_1 n_2 c_3) ∧ SH w K [] w' K' [tail (.slice a_1 n_2 c_3) 48 2] ∧ SliceAt tGPost K' a_1 n_2 c_3 r := by
 rw [M.spec_l7CopyPosts] at hm
 refine calls_in Tryz.func49 rfl Tryz.ntmps49 rfl ?_
 refine sr ?_
 refine wl_val wn rfl (rv_assign (v := .slice none 0 0) rfl) ?_
 refine nr ?_
 refine wl_buildSlice0 tGPost wn rfl Tryz.underlying33 tf48 hS ?_
 intro a5 w6 K7 hl8 hs9 hS10
 refine va rfl rfl ?_
 refine nsr ?_
 refine wl_val wn rfl (rv_assign (v := .int .i64 0) rfl) ?_
 refine nq ?_
 obtain ⟨o11, h12, h13⟩ := ob hm
 refine wc_cutg (fun E' w' => ∃ (a18 : Option Addr) (n19 c20 : Nat) (K14 : KMap), E' = [(3, .slice a18 n19 c20)] ∧ SH w K [] w' K14 [tail (.slice a18 n19 c20) 48 2] ∧ KLe K7 K14 ∧ SliceAt tGPost K14 a18 n19 c20 o11) ?_ ?_
 ·refine wc_block ?_
  obtain ⟨r23, h24, h25⟩ := ob h12
  refine wc_while' (fun (s22 : (List GPost) × Int) E' w' => ∃ (a30 : Option Addr) (n31 c32 : Nat) (K26 : KMap), E' = [(0, .slice a1 n2 c3), (3, .slice a30 n31 c32), (4, .int .i64 s22.2)] ∧ SH w K [] w' K26 [tail (.slice a30 n31 c32) 48 2] ∧ KLe K7 K26 ∧ SliceAt tGPost K26 a30 n31 c32 s22.1 ∧ rng64 s22.2) h24 ⟨a5, 0, 0, K7, rfl, hS10, (KLe.refl _), hs9, (by decide : rng64 0)⟩ ⟨rfl, rfl, rfl, trivial⟩ ?_
  rintro s22 _ w28 r35 h36 hx37 ⟨a30, n31, c32, K26, rfl, hS29, hl27, hs33, hr34⟩
  refine wc_seq ?_
  refine sr ?_
  refine vm rfl rfl ?_
  refine vm rfl rfl ?_
  refine wl_val wn rfl (rv_len (t := tGPost) Tryz.underlying33 rfl (SliceAt.mono (hl8.trans hl27) hs4)) ?_
  refine wl_val wn rfl (rv_lss rfl rfl) ?_
  refine nq ?_
  refine wc_cond rfl (fun hb38 => ?_) (fun hb38 => ?_)
  ·have h39 := cond_t hb38 h36
   refine wc_skip ?_
   refine qs ?_
   refine wc_block ?_
   refine wc_held (fun w' => Holds K26 w') (fun w' => True) 17 [] mixed ?_
   have hS41 := SH.drew hS29
   refine wg_val (i := 0) (listed' := #[true, false, false, false, false, false, false, false, false, false, false, false, false, false, false, false, false]) (fun _ => True) rfl (by kernel_rfl) (pk_block (pk_then (pk_then (pk_block (pk_then (pk_then pk_body)))))) (by kernel_rfl) rfl (by kernel_rfl) (by kernel_rfl) rfl (.inl fun _ _ => trivial) ⟨(hS41.hasK (KLe.refl _)), (fun _ => trivial), by decide⟩ wn rfl (fun _ _ => (rv_move rfl)) ?_
   refine wg_val (i := 1) (listed' := #[true, true, false, false, false, false, false, false, false, false, false, false, false, false, false, false, false]) (fun _ => True) rfl (by kernel_rfl) (pk_block (pk_then (pk_then (pk_block (pk_then (pk_then pk_body)))))) (by kernel_rfl) rfl (by kernel_rfl) (by kernel_rfl) rfl (.inl fun _ _ => trivial) ⟨(hS41.hasK (KLe.refl _)), (fun _ => trivial), by decide⟩ wn rfl (fun _ _ => (rv_move rfl)) ?_
   refine wg_val (i := 2) (listed' := #[true, true, true, false, false, false, false, false, false, false, false, false, false, false, false, false, false]) (fun _ => True) rfl (by kernel_rfl) (pk_block (pk_then (pk_then (pk_block (pk_then (pk_then pk_body)))))) (by kernel_rfl) rfl (by kernel_rfl) (by kernel_rfl) rfl (.inl fun _ _ => trivial) ⟨(hS41.hasK (KLe.refl _)), (fun _ => trivial), by decide⟩ wn rfl (fun _ _ => (rv_move rfl)) ?_
   obtain ⟨x42, hx43, h44⟩ := ob h39
   refine wg_indexAddr (t := tGPost) (j := 3) (listed' := #[true, true, true, true, false, false, false, false, false, false, false, false, false, false, false, false, false]) rfl (by kernel_rfl) (pk_block (pk_then (pk_then (pk_block (pk_then (pk_then pk_body)))))) (by kernel_rfl) rfl (by kernel_rfl) (by kernel_rfl) rfl ⟨(hS41.hasK (KLe.refl _)), (fun _ => trivial), by decide⟩ wn rfl Tryz.underlying33 tf48 rfl rfl (SliceAt.mono (hl8.trans hl27) hs4) hx43 ?_
   intro b45 o46 u47 hu48 ha49
   obtain ⟨a51, n52, c53, rfl, hr50, hs54⟩ := hu48
   have ha55 : AtK _ b45 o46 [.int .i64 x42.Doc, .slice a51 n52 c53] := ha49
   refine wg_val (i := 4) (listed' := #[true, true, true, true, true, false, false, false, false, false, false, false, false, false, false, false, false]) (fun _ => True) rfl (by kernel_rfl) (pk_block (pk_then (pk_then (pk_block (pk_then (pk_then pk_body)))))) (by kernel_rfl) rfl (by kernel_rfl) (by kernel_rfl) rfl (.inl fun _ _ => trivial) ⟨(hS41.hasK (KLe.refl _)), (fun _ => trivial), by decide⟩ wn rfl (fun _ _ => (rv_fieldAddr ff48_0 rfl)) ?_
   refine wg_val (i := 5) (listed' := #[true, true, true, true, true, true, false, false, false, false, false, false, false, false, false, false, false]) (Holds K26) rfl (by kernel_rfl) (pk_block (pk_then (pk_then (pk_block (pk_then (pk_then pk_body)))))) (by kernel_rfl) rfl (by kernel_rfl) (by kernel_rfl) rfl (.inl fun _ h => h) ⟨(hS41.hasK (KLe.refl _)), (fun _ => trivial), by decide⟩ wn rfl (fun _ h => rh_load1 tf3 rfl (ha55 0 _ rfl) h) ?_
   refine wg_val (i := 7) (listed' := #[true, true, true, true, true, true, false, true, false, false, false, false, false, false, false, false, false]) (fun _ => True) rfl (by kernel_rfl) (pk_block (pk_then (pk_then (pk_block (pk_then (pk_then pk_body)))))) (by kernel_rfl) rfl (by kernel_rfl) (by kernel_rfl) rfl (.inl fun _ _ => trivial) ⟨(hS41.hasK (KLe.refl _)), (fun _ => trivial), by decide⟩ wn rfl (fun _ _ => (rv_move rfl)) ?_
   refine wg_val (i := 8) (listed' := #[true, true, true, true, true, true, false, true, true, false, false, false, false, false, false, false, false]) (fun _ => True) rfl (by kernel_rfl) (pk_block (pk_then (pk_then (pk_block (pk_then (pk_then pk_body)))))) (by kernel_rfl) rfl (by kernel_rfl) (by kernel_rfl) rfl (.inl fun _ _ => trivial) ⟨(hS41.hasK (KLe.refl _)), (fun _ => trivial), by decide⟩ wn rfl (fun _ _ => (rv_move rfl)) ?_
   obtain ⟨x56, hx57, h58⟩ := ob h44
   refine wg_indexAddr (t := tGPost) (j := 9) (listed' := #[true, true, true, true, true, true, false, true, true, true, false, false, false, false, false, false, false]) rfl (by kernel_rfl) (pk_block (pk_then (pk_then (pk_block (pk_then (pk_then pk_body)))))) (by kernel_rfl) rfl (by kernel_rfl) (by kernel_rfl) rfl ⟨(hS41.hasK (KLe.refl _)), (fun _ => trivial), by decide⟩ wn rfl Tryz.underlying33 tf48 rfl rfl (SliceAt.mono (hl8.trans hl27) hs4) hx57 ?_
   intro b59 o60 u61 hu62 ha63
   obtain ⟨a65, n66, c67, rfl, hr64, hs68⟩ := hu62
   have ha69 : AtK _ b59 o60 [.int .i64 x56.Doc, .slice a65 n66 c67] := ha63
   refine wg_val (i := 10) (listed' := #[true, true, true, true, true, true, false, true, true, true, true, false, false, false, false, false, false]) (fun _ => True) rfl (by kernel_rfl) (pk_block (pk_then (pk_then (pk_block (pk_then (pk_then pk_body)))))) (by kernel_rfl) rfl (by kernel_rfl) (by kernel_rfl) rfl (.inl fun _ _ => trivial) ⟨(hS41.hasK (KLe.refl _)), (fun _ => trivial), by decide⟩ wn rfl (fun _ _ => (rv_fieldAddr ff48_1 rfl)) ?_
   refine wg_val (i := 11) (listed' := #[true, true, true, true, true, true, false, true, true, true, true, true, false, false, false, false, false]) (Holds K26) rfl (by kernel_rfl) (pk_block (pk_then (pk_then (pk_block (pk_then (pk_then pk_body)))))) (by kernel_rfl) rfl (by kernel_rfl) (by kernel_rfl) rfl (.inl fun _ h => h) ⟨(hS41.hasK (KLe.refl _)), (fun _ => trivial), by decide⟩ wn rfl (fun _ h => rh_load1 tf37 rfl (ha69 1 _ rfl) h) ?_
   refine wg_one (i := 6) (by kernel_rfl) rfl ?_
   refine wl_buildSlice0 tInt wn rfl Tryz.underlying37 tf3 hS41 ?_
   intro a70 w71 K72 hl73 hs74 hS75
   refine wl_nil (qe_held (listed' := #[true, true, true, true, true, true, true, true, true, true, true, true, false, false, false, false, false]) rfl ⟨(hS75.hasK hl73), (fun _ => trivial), by decide⟩ ?_)
   refine wg_one (i := 12) (by kernel_rfl) rfl ?_
   obtain ⟨x76, hx77, h78⟩ := ob h58
   refine wl_append (t := tInt) wn rfl Tryz.underlying37 tf3 rfl rfl rfl rfl rfl hs74 (SliceAt.mono hl73 hs68) hx77 hS75 ?_
   intro a79 n80 c81 w82 K83 hl84 hs85 hS86
   refine wl_nil (qe_held (listed' := #[true, true, true, true, true, true, true, true, true, true, true, true, true, false, false, false, false]) rfl ⟨(hS86.hasK (hl73.trans hl84)), (fun _ => trivial), by decide⟩ ?_)
   refine wg_val (i := 13) (listed' := #[true, true, true, true, true, true, true, true, true, true, true, true, true, true, false, false, false]) (fun _ => True) rfl (by kernel_rfl) (pk_block (pk_then (pk_then (pk_block (pk_then (pk_then pk_body)))))) (by kernel_rfl) rfl (by kernel_rfl) (by kernel_rfl) rfl (.inl fun _ _ => trivial) ⟨(hS86.hasK (hl73.trans hl84)), (fun _ => trivial), by decide⟩ wn rfl (fun _ _ => (rv_build (cs := #[.int .i64 x42.Doc, .slice a79 n80 c81]) sp48 tf48 rfl (by kernel_rfl))) ?_
   refine wg_one (i := 14) (by kernel_rfl) rfl ?_
   refine wl_buildSlice (t := tGPost) (n := 1) (pv := [(0, .agg #[.int .i64 x42.Doc, .slice a79 n80 c81])]) (cs := [.int .i64 x42.Doc, .slice a79 n80 c81]) (xs := [(GPost.mk x42.Doc x76)]) wn rfl Tryz.underlying33 tf48 rfl rfl rfl (by kernel_rfl) rfl rfl (lit_cons (u := .agg #[.int .i64 x42.Doc, .slice a79 n80 c81]) (z := (GPost.mk x42.Doc x76)) ⟨a79, n80, c81, rfl, hr50, hs85⟩ lit_nil) hS86 ?_
   intro a87 w88 K89 hl90 hs91 hS92
   refine wl_nil (qe_held (listed' := #[true, true, true, true, true, true, true, true, true, true, true, true, true, true, true, false, false]) rfl ⟨(hS92.hasK ((hl73.trans hl84).trans hl90)), (fun _ => trivial), by decide⟩ ?_)
   refine wg_one (i := 15) (by kernel_rfl) rfl ?_
   have hS93 : SH _ _ _ _ _ [_, _, _] := SH.front (p := [_, _]) hS92
   obtain ⟨x94, hx95, h96⟩ := ob h78
   refine wl_append (t := tGPost) wn rfl Tryz.underlying33 tf48 rfl rfl rfl rfl rfl (SliceAt.mono ((hl73.trans hl84).trans hl90) hs33) hs91 hx95 hS93 ?_
   intro a97 n98 c99 w100 K101 hl102 hs103 hS104
   refine wl_nil (qe_held (listed' := #[true, true, true, true, true, true, true, true, true, true, true, true, true, true, true, true, false]) rfl ⟨(hS104.hasK (((hl73.trans hl84).trans hl90).trans hl102)), (fun _ => trivial), by decide⟩ ?_)
   refine wg_val (i := 16) (listed' := #[true, true, true, true, true, true, true, true, true, true, true, true, true, true, true, true, true]) (fun _ => True) rfl (by kernel_rfl) (pk_block (pk_then (pk_then (pk_block (pk_then (pk_then pk_body)))))) (by kernel_rfl) rfl (by kernel_rfl) (by kernel_rfl) rfl (.inl fun _ _ => trivial) ⟨(hS104.hasK (((hl73.trans hl84).trans hl90).trans hl102)), (fun _ => trivial), by decide⟩ wn rfl (fun _ _ => (rv_assign rfl)) ?_
   refine wg_done (by kernel_rfl) ?_
   refine qe_block ?_
   refine qe_seq ?_
   refine wc_region ?_
   refine vm rfl rfl ?_
   refine wl_val wn rfl (rv_add rfl rfl) ?_
   refine va rfl rfl ?_
   refine wl_nil ?_
   obtain rfl := oi h96
   have hS105 : SH _ _ _ _ _ [_] := SH.sublist hS104 (.cons_cons _ (.cons _ (.cons _ .slnil)))
   exact qe_mid' ⟨_, rfl, a97, n98, c99, K101, rfl, hS105, ((((hl27.trans hl73).trans hl84).trans hl90).trans hl102), hs103, (w64_rng _)⟩ ⟨rfl, rfl, rfl, trivial⟩
  ·have h39 := cond_f hb38 h36
   refine wc_exit ?_
   refine qe_then_exit ?_
   refine qe_then_exit ?_
   obtain rfl := oi h39
   have e106 := hx37 _ rfl
   subst e106
   refine qe_block_eq ?_
   obtain rfl := oi h25
   exact qe_mid' ⟨a30, n31, c32, K26, rfl, hS29, hl27, hs33⟩ ⟨rfl, trivial⟩
 ·rintro _ w16 ⟨a18, n19, c20, K14, rfl, hS17, hl15, hs21⟩
  refine qr ?_
  refine vm rfl rfl ?_
  refine va rfl rfl ?_
  refine nq ?_
  refine wc_ret ?_
  obtain rfl := oi h13
  exact qe_ret (vs := [_]) Tryz.results49 ⟨rfl, trivial⟩ ⟨a18, n19, c20, K14, rfl, hS17, hs21⟩

set_option maxHeartbeats 2000000 in
theorem ok_spec_l7Posts (F : Nat) {w : World} {K : KMap} {a1 : Option Addr} {n2 c3 : Nat} {a5 : Option Addr} {n6 c7 : Nat} {p0_s : GSeg} {p1_field : Str} {p2_term : Str} {r : (List GPost)} (hS : SH w K [] w K []) (hs4 : SliceAt tGDoc K a1 n2 c3 p0_s.Docs) (hs8 : SliceAt tGEntry K a5 n6 c7 p0_s.Entries) (hl9 : p1_field.length ≤ maxLen) (hl10 : p2_term.length ≤ maxLen) (hm : M.spec_l7Posts F p0_s p1_field p2_term = some r) :
  Calls Tryz.prog 50 #[.agg #[.slice a1 n2 c3, .slice a5 n6 c7], sv p1_field, sv p2_term] w fun e w' => ∃ (a_1 : Option Addr) (n_2 c_3 : Nat) (K' : KMap), e = .returned (.slice a_1 n_2 c_3) ∧ SH w K [] w' K' [] ∧ SliceAt tGPost K' a_1 n_2 c_3 r := by
 rw [M.spec_l7Posts] at hm
 refine calls_in Tryz.func50 rfl Tryz.ntmps50 rfl ?_
 refine sr ?_
 refine wl_box wn rfl rfl hS ?_
 intro g11 w12 hS13
 have hS14 : SH _ _ _ _ _ [obj g11 [.slice a1 n2 c3, .slice a5 n6 c7] 30] := hS13
 refine wl_val wn rfl (rv_assign (v := .slice none 0 0) rfl) ?_
 refine nsr ?_
 refine wl_val wn rfl (rv_assign (v := .int .i64 0) rfl) ?_
 refine nq ?_
 obtain ⟨o15, h16, h17⟩ := ob hm
 refine wc_cutg (fun E' w' => ∃ (s18 : Unit) (K19 : KMap), o15 = .inl s18 ∧ E' = [] ∧ SH w K [] w' K19 [] ∧ KLe K K19) ?_ ?_
 ·refine wc_block ?_
  obtain ⟨r24, h25, h26⟩ := ob h16
  refine wc_while' (fun (s23 : Int) E' w' => ∃ (K27 : KMap), E' = [(1, sv p1_field), (2, sv p2_term), (3, .pointer (some ⟨g11, 0, none⟩)), (7, .int .i64 s23)] ∧ SH w K [] w' K27 [obj g11 [.slice a1 n2 c3, .slice a5 n6 c7] 30] ∧ KLe K K27 ∧ rng64 s23) h25 ⟨K, rfl, hS14, (KLe.refl _), (by decide : rng64 0)⟩ ⟨rfl, rfl, rfl, rfl, trivial⟩ ?_
  rintro s23 _ w29 r32 h33 hx34 ⟨K27, rfl, hS30, hl28, hr31⟩
  refine wc_seq ?_
  refine sr ?_
  refine vm rfl rfl ?_
  refine wl_val wn rfl (rv_fieldAddr ff30_1 rfl) ?_
  refine wl_val wn rfl (rv_loadm1 tf28 rfl (.head _) hS30 rfl) ?_
  refine wl_val wn rfl (rv_len (t := tGEntry) Tryz.underlying28 rfl (SliceAt.mono hl28 hs8)) ?_
  refine wl_val wn rfl (rv_lss rfl rfl) ?_
  refine nq ?_
  refine wc_cond rfl (fun hb35 => ?_) (fun hb35 => ?_)
  ·have h36 := cond_t hb35 h33
   refine wc_skip ?_
   refine qs ?_
   refine wc_block ?_
   refine wc_seq ?_
   obtain ⟨o37, h38, h39⟩ := ob h36
   refine wc_cutg (fun E' w' => ∃ (K40 : KMap), E' = [(1, sv p1_field), (2, sv p2_term), (3, .pointer (some ⟨g11, 0, none⟩)), (7, .int .i64 s23), (32, .bool o37)] ∧ SH w K [] w' K40 [obj g11 [.slice a1 n2 c3, .slice a5 n6 c7] 30] ∧ KLe K27 K40) ?_ ?_
   ·refine wc_region ?_
    refine wl_val wn rfl (rv_fieldAddr ff30_1 rfl) ?_
    refine wl_val wn rfl (rv_loadm1 tf28 rfl (.head _) hS30 rfl) ?_
    refine vm rfl rfl ?_
    obtain ⟨x44, hx45, h46⟩ := ob h38
    refine wl_indexAddr (t := tGEntry) wn rfl Tryz.underlying28 tf94 rfl rfl (SliceAt.mono hl28 hs8) hx45 ?_
    intro b47 o48 u49 hu50 ha51
    obtain ⟨a54, n55, c56, rfl, hl52, hl53, hs57⟩ := hu50
    have ha58 : AtK _ b47 o48 [sv x44.Field, sv x44.Term, .slice a54 n55 c56] := ha51
    refine wl_val wn rfl (rv_fieldAddr ff94_0 rfl) ?_
    refine wl_val wn rfl (rv_load1 tf9 rfl hS30 (ha58 0 _ rfl)) ?_
    refine vm rfl rfl ?_
    refine wl_val wn rfl (rv_seql rfl rfl) ?_
    refine vm rfl rfl ?_
    rcases bool_tf ((x44.Field == p1_field)) with hb59 | hb59
    ·have h60 := cond_t hb59 h46
     refine wl_val (wg rfl rfl hb59) rfl (rv_fieldAddr ff30_1 rfl) ?_
     refine wl_val (wg rfl rfl hb59) rfl (rv_loadm1 tf28 rfl (.head _) hS30 rfl) ?_
     refine wl_val (wg rfl rfl hb59) rfl (rv_move rfl) ?_
     obtain ⟨x61, hx62, h63⟩ := ob h60
     refine wl_indexAddr (t := tGEntry) (wg rfl rfl hb59) rfl Tryz.underlying28 tf94 rfl rfl (SliceAt.mono hl28 hs8) hx62 ?_
     intro b64 o65 u66 hu67 ha68
     obtain ⟨a71, n72, c73, rfl, hl69, hl70, hs74⟩ := hu67
     have ha75 : AtK _ b64 o65 [sv x61.Field, sv x61.Term, .slice a71 n72 c73] := ha68
     refine wl_val (wg rfl rfl hb59) rfl (rv_fieldAddr ff94_1 rfl) ?_
     refine wl_val (wg rfl rfl hb59) rfl (rv_load1 tf9 rfl hS30 (ha75 1 _ rfl)) ?_
     refine wl_val (wg rfl rfl hb59) rfl (rv_move rfl) ?_
     refine wl_val (wg rfl rfl hb59) rfl (rv_seql rfl rfl) ?_
     refine wl_val wn rfl (rv_pick_t rfl hb59 rfl) ?_
     refine wl_nil ?_
     obtain rfl := oi h63
     exact qe_mid' ⟨K27, rfl, hS30, (KLe.refl _)⟩ ⟨rfl, rfl, rfl, rfl, rfl, trivial⟩
    ·have h60 := cond_f hb59 h46
     refine wl_un (ug rfl rfl hb59) rfl ?_
     refine wl_un (ug rfl rfl hb59) rfl ?_
     refine wl_un (ug rfl rfl hb59) rfl ?_
     refine wl_un (ug rfl rfl hb59) rfl ?_
     refine wl_un (ug rfl rfl hb59) rfl ?_
     refine wl_un (ug rfl rfl hb59) rfl ?_
     refine wl_un (ug rfl rfl hb59) rfl ?_
     refine wl_un (ug rfl rfl hb59) rfl ?_
     refine wl_val wn rfl (rv_pick_f (v := .bool false) rfl hb59 rfl) ?_
     refine wl_nil ?_
     obtain rfl := oi h60
     exact qe_mid' ⟨K27, rfl, hS30, (KLe.refl _)⟩ ⟨rfl, rfl, rfl, rfl, rfl, trivial⟩
   ·rintro _ w42 ⟨K40, rfl, hS43, hl41⟩
    refine qe_seq ?_
    refine wc_cond rfl (fun hb76 => ?_) (fun hb76 => ?_)
    ·have h77 := cond_t hb76 h39
     refine sr ?_
     refine wl_val wn rfl (rv_fieldAddr ff30_1 rfl) ?_
     refine wl_val wn rfl (rv_loadm1 tf28 rfl (.head _) hS43 rfl) ?_
     refine vm rfl rfl ?_
     obtain ⟨x78, hx79, h80⟩ := ob h77
     refine wl_indexAddr (t := tGEntry) wn rfl Tryz.underlying28 tf94 rfl rfl (SliceAt.mono (hl28.trans hl41) hs8) hx79 ?_
     intro b81 o82 u83 hu84 ha85
     obtain ⟨a88, n89, c90, rfl, hl86, hl87, hs91⟩ := hu84
     have ha92 : AtK _ b81 o82 [sv x78.Field, sv x78.Term, .slice a88 n89 c90] := ha85
     refine wl_val wn rfl (rv_fieldAddr ff94_2 rfl) ?_
     refine wl_val wn rfl (rv_load1 tf33 rfl hS43 (ha92 2 _ rfl)) ?_
     refine va rfl rfl ?_
     refine nq ?_
     refine wc_ret ?_
     refine qe_block_ret ?_
     refine qe_then_ret ?_
     refine qe_then_ret ?_
     obtain rfl := oi h80
     have e93 := hx34 _ rfl
     subst e93
     refine qe_block_ret ?_
     refine qe_then_ret ?_
     obtain rfl := oi h26
     refine qe_then_ret ?_
     obtain rfl := oi h17
     have hS94 : SH _ _ _ _ _ [] := SH.sublist hS43 (.cons _ .slnil)
     exact qe_ret (vs := [_]) Tryz.results50 ⟨rfl, trivial⟩ ⟨a88, n89, c90, K40, rfl, hS94, hs91⟩
    ·have h77 := cond_f hb76 h39
     refine wc_skip ?_
     refine qe_block ?_
     refine qe_seq ?_
     refine wc_region ?_
     refine vm rfl rfl ?_
     refine wl_val wn rfl (rv_add rfl rfl) ?_
     refine va rfl rfl ?_
     refine wl_nil ?_
     obtain rfl := oi h77
     exact qe_mid' ⟨_, rfl, K40, rfl, hS43, (hl28.trans hl41), (w64_rng _)⟩ ⟨rfl, rfl, rfl, rfl, trivial⟩
  ·have h36 := cond_f hb35 h33
   refine wc_exit ?_
   refine qe_then_exit ?_
   refine qe_then_exit ?_
   obtain rfl := oi h36
   have e95 := hx34 _ rfl
   subst e95
   refine qe_block_eq ?_
   obtain rfl := oi h26
   have hS96 : SH _ _ _ _ _ [] := SH.sublist hS30 (.cons _ .slnil)
   exact qe_mid' ⟨_, K27, rfl, rfl, hS96, hl28⟩ trivial
 ·rintro _ w21 ⟨s18, K19, rfl, rfl, hS22, hl20⟩
  refine qr ?_
  refine wl_val wn rfl (rv_assign (v := .slice none 0 0) rfl) ?_
  refine nq ?_
  refine wc_ret ?_
  obtain rfl := oi h17
  exact qe_ret (vs := [_]) Tryz.results50 ⟨rfl, trivial⟩ ⟨none, 0, 0, K19, rfl, hS22, (SliceAt.nil _ _)⟩

theorem ok_spec_SegPosts (F : Nat) {w : World} {K : KMap} {a1 : Option Addr} {n2 c3 : Nat} {a5 : Option Addr} {n6 c7 : Nat} {a9 : Option Addr} {n10 c11 : Nat} {a13 : Option Addr} {n14 c15 : Nat} {p0_c : GConf} {p1_s : GSeg} {p2_field : Str} {p3_term : Str} {r : (List GPost)} (hS : SH w K [] w K []) (hs4 : SliceAt tStr K a1 n2 c3 p0_c.Stops) (hs8 : SliceAt tGSyn K a5 n6 c7 p0_c.Syns) (hs12 : SliceAt tGDoc K a9 n10 c11 p1_s.Docs) (hs16 : SliceAt tGEntry K a13 n14 c15 p1_s.Entries) (hl17 : p2_field.length ≤ maxLen) (hl18 : p3_term.length ≤ maxLen) (hm : M.spec_SegPosts F p0_c p1_s p2_field p3_term = some r) :
  Calls Tryz.prog 12 #[.agg #[.slice a1 n2 c3, .slice a5 n6 c7], .agg #[.slice a9 n10 c11, .slice a13 n14 c15], sv p2_field, sv p3_term] w fun e w' => ∃ (a_1 : Option Addr) (n_2 c_3 : Nat) (K' : KMap), e = .returned (.slice a_1 n_2 c_3) ∧ SH w K [] w' K' [tail (.slice a_1 n_2 c_3) 48 2] ∧ SliceAt tGPost K' a_1 n_2 c_3 r := by
 rw [M.spec_SegPosts] at hm
 refine calls_in Tryz.func12 rfl Tryz.ntmps12 rfl ?_
 refine sr ?_
 refine wl_box wn rfl rfl hS ?_
 intro g19 w20 hS21
 have hS22 : SH _ _ _ _ _ [obj g19 [.slice a1 n2 c3, .slice a5 n6 c7] 26] := hS21
 refine wl_box wn rfl rfl hS22 ?_
 intro g23 w24 hS25
 have hS26 : SH _ _ _ _ _ [obj g23 [.slice a9 n10 c11, .slice a13 n14 c15] 30, _] := hS25
 refine wl_val wn rfl (rv_assign (v := .slice none 0 0) rfl) ?_
 refine nsr ?_
 refine wl_val wn rfl (rv_loadmS (ds := [.slice a1 n2 c3, .slice a5 n6 c7]) tf26 rfl (.tail _ (.head _)) hS26 rfl rfl) ?_
 refine wl_val wn rfl (rv_loadmS (ds := [.slice a9 n10 c11, .slice a13 n14 c15]) tf30 rfl (.head _) hS26 rfl rfl) ?_
 obtain ⟨r27, hx28, h29⟩ := ob hm
 refine wl_call wn rfl (rt_call (vs := [.agg #[.slice a1 n2 c3, .slice a5 n6 c7], .agg #[.slice a9 n10 c11, .slice a13 n14 c15]]) co48 rfl) ((ok_spec_l7Ok F) hS26.enter0 hs4 hs8 hs12 hs16 hx28) ?_
 rintro e33 w31 ⟨K30, rfl, hS32⟩
 refine ⟨_, rfl, ?_⟩
 have hS34 : SH _ _ _ _ _ [_, _] := SH.call0 hS26 hS32
 refine wl_val wn rfl (rv_not rfl) ?_
 refine nq ?_
 refine wc_cond rfl (fun hb35 => ?_) (fun hb35 => ?_)
 ·have h36 := cond_t hb35 h29
  refine sr ?_
  refine wl_val wn rfl (rv_assign (v := .slice none 0 0) rfl) ?_
  refine nq ?_
  refine rr ?_
  obtain rfl := oi h36
  have hS37 := SH.nil hS34 48 2
  have hS38 : SH _ _ _ _ _ [_] := SH.sublist hS37 (.cons_cons _ (.cons _ (.cons _ .slnil)))
  exact qe_ret (vs := [_]) Tryz.results12 ⟨rfl, trivial⟩ ⟨none, 0, 0, K30, rfl, hS38, (SliceAt.nil _ _)⟩
 ·have h36 := cond_f hb35 h29
  refine wc_skip ?_
  refine qr ?_
  refine wl_val wn rfl (rv_loadmS (ds := [.slice a9 n10 c11, .slice a13 n14 c15]) tf30 rfl (.head _) hS34 rfl rfl) ?_
  refine vm rfl rfl ?_
  refine vm rfl rfl ?_
  obtain ⟨r39, hx40, h41⟩ := ob h36
  refine wl_call wn rfl (rt_call (vs := [.agg #[.slice a9 n10 c11, .slice a13 n14 c15], sv p2_field, sv p3_term]) co50 rfl) ((ok_spec_l7Posts F) hS34.enter0 (SliceAt.mono hS32.le hs12) (SliceAt.mono hS32.le hs16) hl17 hl18 hx40) ?_
  rintro e49 w43 ⟨a45, n46, c47, K42, rfl, hS44, hs48⟩
  refine ⟨_, rfl, ?_⟩
  have hS50 : SH _ _ _ _ _ [_, _] := SH.call0 hS34 hS44
  obtain ⟨r51, hx52, h53⟩ := ob h41
  refine wl_call wn rfl (rt_call (vs := [.slice a45 n46 c47]) co49 rfl) ((ok_spec_l7CopyPosts F) hS50.enter0 hs48 hx52) ?_
  rintro e61 w55 ⟨a57, n58, c59, K54, rfl, hS56, hs60⟩
  refine ⟨_, rfl, ?_⟩
  have hS62 : SH _ _ _ _ _ [_, _, _] := SH.call0 hS50 hS56
  refine va rfl rfl ?_
  refine nq ?_
  refine wc_ret ?_
  obtain rfl := oi h53
  have hS63 : SH _ _ _ _ _ [_] := SH.sublist hS62 (.cons_cons _ (.cons _ (.cons _ .slnil)))
  exact qe_ret (vs := [_]) Tryz.results12 ⟨rfl, trivial⟩ ⟨a57, n58, c59, K54, rfl, hS63, hs60⟩

theorem ok_spec_SegOk (F : Nat) {w : World} {K : KMap} {a1 : Option Addr} {n2 c3 : Nat} {a5 : Option Addr} {n6 c7 : Nat} {a9 : Option Addr} {n10 c11 : Nat} {a13 : Option Addr} {n14 c15 : Nat} {p0_c : GConf} {p1_s : GSeg} {r : Bool} (hS : SH w K [] w K []) (hs4 : SliceAt tStr K a1 n2 c3 p0_c.Stops) (hs8 : SliceAt tGSyn K a5 n6 c7 p0_c.Syns) (hs12 : SliceAt tGDoc K a9 n10 c11 p1_s.Docs) (hs16 : SliceAt tGEntry K a13 n14 c15 p1_s.Entries) (hm : M.spec_SegOk F p0_c p1_s = some r) :
  Calls Tryz.prog 14 #[.agg #[.slice a1 n2 c3, .slice a5 n6 c7], .agg #[.slice a9 n10 c11, .slice a13 n14 c15]] w fun e w' => ∃ (K' : KMap), e = .returned (.bool r) ∧ SH w K [] w' K' [] := by
 rw [M.spec_SegOk] at hm
 refine calls_in Tryz.func14 rfl Tryz.ntmps14 rfl ?_
 refine sr ?_
 refine wl_box wn rfl rfl hS ?_
 intro g17 w18 hS19
 have hS20 : SH _ _ _ _ _ [obj g17 [.slice a1 n2 c3, .slice a5 n6 c7] 26] := hS19
 refine wl_box wn rfl rfl hS20 ?_
 intro g21 w22 hS23
 have hS24 : SH _ _ _ _ _ [obj g21 [.slice a9 n10 c11, .slice a13 n14 c15] 30, _] := hS23
 refine wl_val wn rfl (rv_assign (v := .bool false) rfl) ?_
 refine nr ?_
 refine wl_val wn rfl (rv_loadmS (ds := [.slice a1 n2 c3, .slice a5 n6 c7]) tf26 rfl (.tail _ (.head _)) hS24 rfl rfl) ?_
 refine wl_val wn rfl (rv_loadmS (ds := [.slice a9 n10 c11, .slice a13 n14 c15]) tf30 rfl (.head _) hS24 rfl rfl) ?_
 obtain ⟨r25, hx26, h27⟩ := ob hm
 refine wl_call wn rfl (rt_call (vs := [.agg #[.slice a1 n2 c3, .slice a5 n6 c7], .agg #[.slice a9 n10 c11, .slice a13 n14 c15]]) co48 rfl) ((ok_spec_l7Ok F) hS24.enter0 hs4 hs8 hs12 hs16 hx26) ?_
 rintro e31 w29 ⟨K28, rfl, hS30⟩
 refine ⟨_, rfl, ?_⟩
 have hS32 : SH _ _ _ _ _ [_, _] := SH.call0 hS24 hS30
 refine va rfl rfl ?_
 refine nq ?_
 refine wc_ret ?_
 obtain rfl := oi h27
 have hS33 : SH _ _ _ _ _ [] := SH.sublist hS32 (.cons _ (.cons _ .slnil))
 exact qe_ret (vs := [_]) Tryz.results14 ⟨rfl, trivial⟩ ⟨K28, rfl, hS33⟩
end Go.Proofs.YtdcmmhjhffcnhaaGreat
