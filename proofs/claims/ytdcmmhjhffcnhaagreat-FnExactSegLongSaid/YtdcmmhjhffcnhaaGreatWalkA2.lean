/-
 Walks of the functions. Printed by gen.py.
-/
import Derived.Test.YtdcmmhjhffcnhaaGreatWalkA1
set_option linter.unusedVariables false
set_option maxRecDepth 100000
namespace Go.Proofs.YtdcmmhjhffcnhaaGreat
open Go Go.Fk Go.RowKit

theorem ok_laws_szPostS (F : Nat) {w : World} {K : KMap} {a1 : Option Addr} {n2 c3 : Nat} {p0_a : List GPost} {p1_left : Int} {r : Int} (hS : SH w K [] w K []) (hs4 : SliceAt tGPost K a1 n2 c3 p0_a) (hr5 : rng64 p1_left) (hm : M.laws_szPostS F p0_a p1_left = some r) :
  Calls Tryz.prog 165 #[.slice a1 n2 c3, .int .i64 p1_left] w fun e w' => ∃ (K' : KMap), e = .returned (.int .i64 r) ∧ SH w K [] w' K' [] ∧ rng64 r := by
 rw [M.laws_szPostS] at hm
 refine calls_in Tryz.func165 rfl Tryz.ntmps165 rfl ?_
 refine sr ?_
 refine wl_val wn rfl (rv_assign (v := .int .i64 0) rfl) ?_
 refine nr ?_
 refine vm rfl rfl ?_
 refine vm rfl rfl ?_
 refine wl_val wn rfl (rv_len (t := tGPost) Tryz.underlying174 rfl hs4) ?_
 refine wl_val wn rfl (rv_sub rfl rfl) ?_
 refine va rfl rfl ?_
 refine nsr ?_
 refine vm rfl rfl ?_
 refine wl_val wn rfl (rv_lss rfl rfl) ?_
 refine nq ?_
 refine wc_cond rfl (fun hb6 => ?_) (fun hb6 => ?_)
 ·have h7 := cond_t hb6 hm
  refine sr ?_
  refine wl_val wn rfl (rv_assign (v := .int .i64 (-1)) rfl) ?_
  refine nq ?_
  refine rr ?_
  obtain rfl := oi h7
  exact qe_ret (vs := [_]) Tryz.results165 ⟨rfl, trivial⟩ ⟨K, rfl, hS, (by decide : rng64 (-1))⟩
 ·have h7 := cond_f hb6 hm
  refine wc_skip ?_
  refine qs ?_
  refine sr ?_
  refine wl_val wn rfl (rv_assign (v := .int .i64 0) rfl) ?_
  refine nq ?_
  obtain ⟨o8, h9, h10⟩ := ob h7
  refine wc_cutg (fun E' w' => ∃ (s11 : Int) (K12 : KMap), o8 = .inl s11 ∧ E' = [(1, .int .i64 s11)] ∧ SH w K [] w' K12 [] ∧ KLe K K12 ∧ rng64 s11) ?_ ?_
  ·refine wc_block ?_
   obtain ⟨r18, h19, h20⟩ := ob h9
   refine wc_while' (fun (s17 : Int × Int) E' w' => ∃ (K21 : KMap), E' = [(0, .slice a1 n2 c3), (1, .int .i64 s17.1), (5, .int .i64 s17.2)] ∧ SH w K [] w' K21 [] ∧ KLe K K21 ∧ rng64 s17.1 ∧ rng64 s17.2) h19 ⟨K, rfl, hS, (KLe.refl _), (w64_rng _), (by decide : rng64 0)⟩ ⟨rfl, rfl, rfl, trivial⟩ ?_
   rintro s17 _ w23 r27 h28 hx29 ⟨K21, rfl, hS24, hl22, hr25, hr26⟩
   refine wc_seq ?_
   refine sr ?_
   refine vm rfl rfl ?_
   refine vm rfl rfl ?_
   refine wl_val wn rfl (rv_len (t := tGPost) Tryz.underlying174 rfl (SliceAt.mono hl22 hs4)) ?_
   refine wl_val wn rfl (rv_lss rfl rfl) ?_
   refine nq ?_
   refine wc_cond rfl (fun hb30 => ?_) (fun hb30 => ?_)
   ·have h31 := cond_t hb30 h28
    refine wc_skip ?_
    refine qs ?_
    refine wc_block ?_
    refine sr ?_
    refine vm rfl rfl ?_
    refine vm rfl rfl ?_
    obtain ⟨x32, hx33, h34⟩ := ob h31
    refine wl_indexAddr (t := tGPost) wn rfl Tryz.underlying174 tf216 rfl rfl (SliceAt.mono hl22 hs4) hx33 ?_
    intro b35 o36 u37 hu38 ha39
    obtain ⟨a41, n42, c43, rfl, hr40, hs44⟩ := hu38
    have ha45 : AtK _ b35 o36 [.int .i64 x32.Doc, .slice a41 n42 c43] := ha39
    refine wl_val wn rfl (rv_loadS (cs := [.int .i64 x32.Doc, .slice a41 n42 c43]) tf216 rfl hS24 ha45 rfl) ?_
    refine vm rfl rfl ?_
    obtain ⟨r46, hx47, h48⟩ := ob h34
    refine wl_call wn rfl (rt_call (vs := [.agg #[.int .i64 x32.Doc, .slice a41 n42 c43], .int .i64 s17.1]) co176 rfl) ((ok_laws_szPost F) hS24.enter0 hr40 hs44 hr25 hx47) ?_
    rintro e53 w50 ⟨K49, rfl, hS51, hr52⟩
    refine ⟨_, rfl, ?_⟩
    have hS54 : SH _ _ _ _ _ [] := SH.call0 hS24 hS51
    refine va rfl rfl ?_
    refine nr ?_
    refine vm rfl rfl ?_
    refine wl_val wn rfl (rv_lss rfl rfl) ?_
    refine nq ?_
    refine wc_cond rfl (fun hb55 => ?_) (fun hb55 => ?_)
    ·have h56 := cond_t hb55 h48
     refine sr ?_
     refine wl_val wn rfl (rv_assign (v := .int .i64 (-1)) rfl) ?_
     refine nq ?_
     refine wc_ret ?_
     refine qe_block_ret ?_
     refine qe_then_ret ?_
     refine qe_then_ret ?_
     obtain rfl := oi h56
     have e57 := hx29 _ rfl
     subst e57
     refine qe_block_ret ?_
     refine qe_then_ret ?_
     obtain rfl := oi h20
     refine qe_then_ret ?_
     obtain rfl := oi h10
     exact qe_ret (vs := [_]) Tryz.results165 ⟨rfl, trivial⟩ ⟨K49, rfl, hS54, (by decide : rng64 (-1))⟩
    ·have h56 := cond_f hb55 h48
     refine wc_skip ?_
     refine qe_block ?_
     refine qe_seq ?_
     refine wc_region ?_
     refine vm rfl rfl ?_
     refine wl_val wn rfl (rv_add rfl rfl) ?_
     refine va rfl rfl ?_
     refine wl_nil ?_
     obtain rfl := oi h56
     exact qe_mid' ⟨_, rfl, K49, rfl, hS54, (hl22.trans hS51.le), hr52, (w64_rng _)⟩ ⟨rfl, rfl, rfl, trivial⟩
   ·have h31 := cond_f hb30 h28
    refine wc_exit ?_
    refine qe_then_exit ?_
    refine qe_then_exit ?_
    obtain rfl := oi h31
    have e58 := hx29 _ rfl
    subst e58
    refine qe_block_eq ?_
    obtain rfl := oi h20
    exact qe_mid' ⟨_, K21, rfl, rfl, hS24, hl22, hr25⟩ ⟨rfl, trivial⟩
  ·rintro _ w14 ⟨s11, K12, rfl, rfl, hS15, hl13, hr16⟩
   refine qr ?_
   refine vm rfl rfl ?_
   refine va rfl rfl ?_
   refine nq ?_
   refine wc_ret ?_
   obtain rfl := oi h10
   exact qe_ret (vs := [_]) Tryz.results165 ⟨rfl, trivial⟩ ⟨K12, rfl, hS15, hr16⟩

theorem ok_laws_szEntry (F : Nat) {w : World} {K : KMap} {a3 : Option Addr} {n4 c5 : Nat} {p0_a : GEntry} {p1_left : Int} {r : Int} (hS : SH w K [] w K []) (hl1 : p0_a.Field.length ≤ maxLen) (hl2 : p0_a.Term.length ≤ maxLen) (hs6 : SliceAt tGPost K a3 n4 c5 p0_a.Posts) (hr7 : rng64 p1_left) (hm : M.laws_szEntry F p0_a p1_left = some r) :
  Calls Tryz.prog 133 #[.agg #[sv p0_a.Field, sv p0_a.Term, .slice a3 n4 c5], .int .i64 p1_left] w fun e w' => ∃ (K' : KMap), e = .returned (.int .i64 r) ∧ SH w K [] w' K' [] ∧ rng64 r := by
 rw [M.laws_szEntry] at hm
 refine calls_in Tryz.func133 rfl Tryz.ntmps133 rfl ?_
 refine sr ?_
 refine wl_box wn rfl rfl hS ?_
 intro g8 w9 hS10
 have hS11 : SH _ _ _ _ _ [obj g8 [sv p0_a.Field, sv p0_a.Term, .slice a3 n4 c5] 176] := hS10
 refine wl_val wn rfl (rv_assign (v := .int .i64 0) rfl) ?_
 refine nr ?_
 refine vm rfl rfl ?_
 refine wl_val wn rfl (rv_fieldAddr ff176_0 rfl) ?_
 refine wl_val wn rfl (rv_loadm1 tf9 rfl (.head _) hS11 rfl) ?_
 refine wl_val wn rfl (rv_slen Tryz.underlying9 rfl) ?_
 refine wl_val wn rfl (rv_sub rfl rfl) ?_
 refine va rfl rfl ?_
 refine nsr ?_
 refine vm rfl rfl ?_
 refine wl_val wn rfl (rv_lss rfl rfl) ?_
 refine nq ?_
 refine wc_cond rfl (fun hb12 => ?_) (fun hb12 => ?_)
 ·have h13 := cond_t hb12 hm
  refine sr ?_
  refine wl_val wn rfl (rv_assign (v := .int .i64 (-1)) rfl) ?_
  refine nq ?_
  refine rr ?_
  obtain rfl := oi h13
  have hS14 : SH _ _ _ _ _ [] := SH.sublist hS11 (.cons _ .slnil)
  exact qe_ret (vs := [_]) Tryz.results133 ⟨rfl, trivial⟩ ⟨K, rfl, hS14, (by decide : rng64 (-1))⟩
 ·have h13 := cond_f hb12 hm
  refine wc_skip ?_
  refine qr ?_
  refine vm rfl rfl ?_
  refine wl_val wn rfl (rv_fieldAddr ff176_1 rfl) ?_
  refine wl_val wn rfl (rv_loadm1 tf9 rfl (.head _) hS11 rfl) ?_
  refine wl_val wn rfl (rv_slen Tryz.underlying9 rfl) ?_
  refine wl_val wn rfl (rv_sub rfl rfl) ?_
  obtain ⟨x15, hx16, h17⟩ := ob h13
  have e18 := oi hx16
  refine wl_val wn rfl (rv_as rfl (congrArg (Value.int .i64) e18)) ?_
  refine nsr ?_
  refine vm rfl rfl ?_
  refine wl_val wn rfl (rv_lss rfl rfl) ?_
  refine nq ?_
  refine wc_cond rfl (fun hb19 => ?_) (fun hb19 => ?_)
  ·have h20 := cond_t hb19 h17
   refine sr ?_
   refine wl_val wn rfl (rv_assign (v := .int .i64 (-1)) rfl) ?_
   refine nq ?_
   refine rr ?_
   obtain rfl := oi h20
   have hS21 : SH _ _ _ _ _ [] := SH.sublist hS11 (.cons _ .slnil)
   exact qe_ret (vs := [_]) Tryz.results133 ⟨rfl, trivial⟩ ⟨K, rfl, hS21, (by decide : rng64 (-1))⟩
  ·have h20 := cond_f hb19 h17
   refine wc_skip ?_
   refine qr ?_
   refine wl_val wn rfl (rv_fieldAddr ff176_2 rfl) ?_
   refine wl_val wn rfl (rv_loadm1 tf174 rfl (.head _) hS11 rfl) ?_
   refine vm rfl rfl ?_
   obtain ⟨r22, hx23, h24⟩ := ob h20
   refine wl_call wn rfl (rt_call (vs := [.slice a3 n4 c5, .int .i64 x15]) co165 rfl) ((ok_laws_szPostS F) hS11.enter0 hs6 (cast_rng e18 (w64_rng _)) hx23) ?_
   rintro e29 w26 ⟨K25, rfl, hS27, hr28⟩
   refine ⟨_, rfl, ?_⟩
   have hS30 : SH _ _ _ _ _ [_] := SH.call0 hS11 hS27
   refine va rfl rfl ?_
   refine nsr ?_
   refine vm rfl rfl ?_
   refine wl_val wn rfl (rv_lss rfl rfl) ?_
   refine nq ?_
   refine wc_cond rfl (fun hb31 => ?_) (fun hb31 => ?_)
   ·have h32 := cond_t hb31 h24
    refine sr ?_
    refine wl_val wn rfl (rv_assign (v := .int .i64 (-1)) rfl) ?_
    refine nq ?_
    refine rr ?_
    obtain rfl := oi h32
    have hS33 : SH _ _ _ _ _ [] := SH.sublist hS30 (.cons _ .slnil)
    exact qe_ret (vs := [_]) Tryz.results133 ⟨rfl, trivial⟩ ⟨K25, rfl, hS33, (by decide : rng64 (-1))⟩
   ·have h32 := cond_f hb31 h24
    refine wc_skip ?_
    refine qr ?_
    refine vm rfl rfl ?_
    refine va rfl rfl ?_
    refine nq ?_
    refine wc_ret ?_
    obtain rfl := oi h32
    have hS34 : SH _ _ _ _ _ [] := SH.sublist hS30 (.cons _ .slnil)
    exact qe_ret (vs := [_]) Tryz.results133 ⟨rfl, trivial⟩ ⟨K25, rfl, hS34, hr28⟩

theorem ok_laws_szEntryS (F : Nat) {w : World} {K : KMap} {a1 : Option Addr} {n2 c3 : Nat} {p0_a : List GEntry} {p1_left : Int} {r : Int} (hS : SH w K [] w K []) (hs4 : SliceAt tGEntry K a1 n2 c3 p0_a) (hr5 : rng64 p1_left) (hm : M.laws_szEntryS F p0_a p1_left = some r) :
  Calls Tryz.prog 85 #[.slice a1 n2 c3, .int .i64 p1_left] w fun e w' => ∃ (K' : KMap), e = .returned (.int .i64 r) ∧ SH w K [] w' K' [] ∧ rng64 r := by
 rw [M.laws_szEntryS] at hm
 refine calls_in Tryz.func85 rfl Tryz.ntmps85 rfl ?_
 refine sr ?_
 refine wl_val wn rfl (rv_assign (v := .int .i64 0) rfl) ?_
 refine nr ?_
 refine vm rfl rfl ?_
 refine vm rfl rfl ?_
 refine wl_val wn rfl (rv_len (t := tGEntry) Tryz.underlying67 rfl hs4) ?_
 refine wl_val wn rfl (rv_sub rfl rfl) ?_
 refine va rfl rfl ?_
 refine nsr ?_
 refine vm rfl rfl ?_
 refine wl_val wn rfl (rv_lss rfl rfl) ?_
 refine nq ?_
 refine wc_cond rfl (fun hb6 => ?_) (fun hb6 => ?_)
 ·have h7 := cond_t hb6 hm
  refine sr ?_
  refine wl_val wn rfl (rv_assign (v := .int .i64 (-1)) rfl) ?_
  refine nq ?_
  refine rr ?_
  obtain rfl := oi h7
  exact qe_ret (vs := [_]) Tryz.results85 ⟨rfl, trivial⟩ ⟨K, rfl, hS, (by decide : rng64 (-1))⟩
 ·have h7 := cond_f hb6 hm
  refine wc_skip ?_
  refine qs ?_
  refine sr ?_
  refine wl_val wn rfl (rv_assign (v := .int .i64 0) rfl) ?_
  refine nq ?_
  obtain ⟨o8, h9, h10⟩ := ob h7
  refine wc_cutg (fun E' w' => ∃ (s11 : Int) (K12 : KMap), o8 = .inl s11 ∧ E' = [(1, .int .i64 s11)] ∧ SH w K [] w' K12 [] ∧ KLe K K12 ∧ rng64 s11) ?_ ?_
  ·refine wc_block ?_
   obtain ⟨r18, h19, h20⟩ := ob h9
   refine wc_while' (fun (s17 : Int × Int) E' w' => ∃ (K21 : KMap), E' = [(0, .slice a1 n2 c3), (1, .int .i64 s17.1), (5, .int .i64 s17.2)] ∧ SH w K [] w' K21 [] ∧ KLe K K21 ∧ rng64 s17.1 ∧ rng64 s17.2) h19 ⟨K, rfl, hS, (KLe.refl _), (w64_rng _), (by decide : rng64 0)⟩ ⟨rfl, rfl, rfl, trivial⟩ ?_
   rintro s17 _ w23 r27 h28 hx29 ⟨K21, rfl, hS24, hl22, hr25, hr26⟩
   refine wc_seq ?_
   refine sr ?_
   refine vm rfl rfl ?_
   refine vm rfl rfl ?_
   refine wl_val wn rfl (rv_len (t := tGEntry) Tryz.underlying67 rfl (SliceAt.mono hl22 hs4)) ?_
   refine wl_val wn rfl (rv_lss rfl rfl) ?_
   refine nq ?_
   refine wc_cond rfl (fun hb30 => ?_) (fun hb30 => ?_)
   ·have h31 := cond_t hb30 h28
    refine wc_skip ?_
    refine qs ?_
    refine wc_block ?_
    refine sr ?_
    refine vm rfl rfl ?_
    refine vm rfl rfl ?_
    obtain ⟨x32, hx33, h34⟩ := ob h31
    refine wl_indexAddr (t := tGEntry) wn rfl Tryz.underlying67 tf176 rfl rfl (SliceAt.mono hl22 hs4) hx33 ?_
    intro b35 o36 u37 hu38 ha39
    obtain ⟨a42, n43, c44, rfl, hl40, hl41, hs45⟩ := hu38
    have ha46 : AtK _ b35 o36 [sv x32.Field, sv x32.Term, .slice a42 n43 c44] := ha39
    refine wl_val wn rfl (rv_loadS (cs := [sv x32.Field, sv x32.Term, .slice a42 n43 c44]) tf176 rfl hS24 ha46 rfl) ?_
    refine vm rfl rfl ?_
    obtain ⟨r47, hx48, h49⟩ := ob h34
    refine wl_call wn rfl (rt_call (vs := [.agg #[sv x32.Field, sv x32.Term, .slice a42 n43 c44], .int .i64 s17.1]) co133 rfl) ((ok_laws_szEntry F) hS24.enter0 hl40 hl41 hs45 hr25 hx48) ?_
    rintro e54 w51 ⟨K50, rfl, hS52, hr53⟩
    refine ⟨_, rfl, ?_⟩
    have hS55 : SH _ _ _ _ _ [] := SH.call0 hS24 hS52
    refine va rfl rfl ?_
    refine nr ?_
    refine vm rfl rfl ?_
    refine wl_val wn rfl (rv_lss rfl rfl) ?_
    refine nq ?_
    refine wc_cond rfl (fun hb56 => ?_) (fun hb56 => ?_)
    ·have h57 := cond_t hb56 h49
     refine sr ?_
     refine wl_val wn rfl (rv_assign (v := .int .i64 (-1)) rfl) ?_
     refine nq ?_
     refine wc_ret ?_
     refine qe_block_ret ?_
     refine qe_then_ret ?_
     refine qe_then_ret ?_
     obtain rfl := oi h57
     have e58 := hx29 _ rfl
     subst e58
     refine qe_block_ret ?_
     refine qe_then_ret ?_
     obtain rfl := oi h20
     refine qe_then_ret ?_
     obtain rfl := oi h10
     exact qe_ret (vs := [_]) Tryz.results85 ⟨rfl, trivial⟩ ⟨K50, rfl, hS55, (by decide : rng64 (-1))⟩
    ·have h57 := cond_f hb56 h49
     refine wc_skip ?_
     refine qe_block ?_
     refine qe_seq ?_
     refine wc_region ?_
     refine vm rfl rfl ?_
     refine wl_val wn rfl (rv_add rfl rfl) ?_
     refine va rfl rfl ?_
     refine wl_nil ?_
     obtain rfl := oi h57
     exact qe_mid' ⟨_, rfl, K50, rfl, hS55, (hl22.trans hS52.le), hr53, (w64_rng _)⟩ ⟨rfl, rfl, rfl, trivial⟩
   ·have h31 := cond_f hb30 h28
    refine wc_exit ?_
    refine qe_then_exit ?_
    refine qe_then_exit ?_
    obtain rfl := oi h31
    have e59 := hx29 _ rfl
    subst e59
    refine qe_block_eq ?_
    obtain rfl := oi h20
    exact qe_mid' ⟨_, K21, rfl, rfl, hS24, hl22, hr25⟩ ⟨rfl, trivial⟩
  ·rintro _ w14 ⟨s11, K12, rfl, rfl, hS15, hl13, hr16⟩
   refine qr ?_
   refine vm rfl rfl ?_
   refine va rfl rfl ?_
   refine nq ?_
   refine wc_ret ?_
   obtain rfl := oi h10
   exact qe_ret (vs := [_]) Tryz.results85 ⟨rfl, trivial⟩ ⟨K12, rfl, hS15, hr16⟩

theorem ok_laws_szSeg (F : Nat) {w : World} {K : KMap} {a1 : Option Addr} {n2 c3 : Nat} {a5 : Option Addr} {n6 c7 : Nat} {p0_a : GSeg} {p1_left : Int} {r : Int} (hS : SH w K [] w K []) (hs4 : SliceAt tGDoc K a1 n2 c3 p0_a.Docs) (hs8 : SliceAt tGEntry K a5 n6 c7 p0_a.Entries) (hr9 : rng64 p1_left) (hm : M.laws_szSeg F p0_a p1_left = some r) :
  Calls Tryz.prog 31 #[.agg #[.slice a1 n2 c3, .slice a5 n6 c7], .int .i64 p1_left] w fun e w' => ∃ (K' : KMap), e = .returned (.int .i64 r) ∧ SH w K [] w' K' [] ∧ rng64 r := by
 rw [M.laws_szSeg] at hm
 refine calls_in Tryz.func31 rfl Tryz.ntmps31 rfl ?_
 refine sr ?_
 refine wl_box wn rfl rfl hS ?_
 intro g10 w11 hS12
 have hS13 : SH _ _ _ _ _ [obj g10 [.slice a1 n2 c3, .slice a5 n6 c7] 69] := hS12
 refine wl_val wn rfl (rv_assign (v := .int .i64 0) rfl) ?_
 refine nr ?_
 refine wl_val wn rfl (rv_fieldAddr ff69_0 rfl) ?_
 refine wl_val wn rfl (rv_loadm1 tf54 rfl (.head _) hS13 rfl) ?_
 refine vm rfl rfl ?_
 obtain ⟨r14, hx15, h16⟩ := ob hm
 refine wl_call wn rfl (rt_call (vs := [.slice a1 n2 c3, .int .i64 p1_left]) co19 rfl) ((ok_laws_szDocS F) hS13.enter0 hs4 hr9 hx15) ?_
 rintro e21 w18 ⟨K17, rfl, hS19, hr20⟩
 refine ⟨_, rfl, ?_⟩
 have hS22 : SH _ _ _ _ _ [_] := SH.call0 hS13 hS19
 refine va rfl rfl ?_
 refine nsr ?_
 refine vm rfl rfl ?_
 refine wl_val wn rfl (rv_lss rfl rfl) ?_
 refine nq ?_
 refine wc_cond rfl (fun hb23 => ?_) (fun hb23 => ?_)
 ·have h24 := cond_t hb23 h16
  refine sr ?_
  refine wl_val wn rfl (rv_assign (v := .int .i64 (-1)) rfl) ?_
  refine nq ?_
  refine rr ?_
  obtain rfl := oi h24
  have hS25 : SH _ _ _ _ _ [] := SH.sublist hS22 (.cons _ .slnil)
  exact qe_ret (vs := [_]) Tryz.results31 ⟨rfl, trivial⟩ ⟨K17, rfl, hS25, (by decide : rng64 (-1))⟩
 ·have h24 := cond_f hb23 h16
  refine wc_skip ?_
  refine qr ?_
  refine wl_val wn rfl (rv_fieldAddr ff69_1 rfl) ?_
  refine wl_val wn rfl (rv_loadm1 tf67 rfl (.head _) hS22 rfl) ?_
  refine vm rfl rfl ?_
  obtain ⟨r26, hx27, h28⟩ := ob h24
  refine wl_call wn rfl (rt_call (vs := [.slice a5 n6 c7, .int .i64 r14]) co85 rfl) ((ok_laws_szEntryS F) hS22.enter0 (SliceAt.mono hS19.le hs8) hr20 hx27) ?_
  rintro e33 w30 ⟨K29, rfl, hS31, hr32⟩
  refine ⟨_, rfl, ?_⟩
  have hS34 : SH _ _ _ _ _ [_] := SH.call0 hS22 hS31
  refine va rfl rfl ?_
  refine nsr ?_
  refine vm rfl rfl ?_
  refine wl_val wn rfl (rv_lss rfl rfl) ?_
  refine nq ?_
  refine wc_cond rfl (fun hb35 => ?_) (fun hb35 => ?_)
  ·have h36 := cond_t hb35 h28
   refine sr ?_
   refine wl_val wn rfl (rv_assign (v := .int .i64 (-1)) rfl) ?_
   refine nq ?_
   refine rr ?_
   obtain rfl := oi h36
   have hS37 : SH _ _ _ _ _ [] := SH.sublist hS34 (.cons _ .slnil)
   exact qe_ret (vs := [_]) Tryz.results31 ⟨rfl, trivial⟩ ⟨K29, rfl, hS37, (by decide : rng64 (-1))⟩
  ·have h36 := cond_f hb35 h28
   refine wc_skip ?_
   refine qr ?_
   refine vm rfl rfl ?_
   refine va rfl rfl ?_
   refine nq ?_
   refine wc_ret ?_
   obtain rfl := oi h36
   have hS38 : SH _ _ _ _ _ [] := SH.sublist hS34 (.cons _ .slnil)
   exact qe_ret (vs := [_]) Tryz.results31 ⟨rfl, trivial⟩ ⟨K29, rfl, hS38, hr32⟩

theorem ok_laws_toField (F : Nat) {w : World} {K : KMap} {p0_a : GField} {r : GField} (hS : SH w K [] w K []) (hl1 : p0_a.Name.length ≤ maxLen) (hl2 : p0_a.Text.length ≤ maxLen) (hm : M.laws_toField F p0_a = some r) :
  Calls Tryz.prog 151 #[.agg #[sv p0_a.Name, sv p0_a.Text]] w fun e w' => ∃ (K' : KMap), e = .returned (.agg #[sv r.Name, sv r.Text]) ∧ SH w K [] w' K' [] ∧ r.Name.length ≤ maxLen ∧ r.Text.length ≤ maxLen := by
 rw [M.laws_toField] at hm
 refine calls_in Tryz.func151 rfl Tryz.ntmps151 rfl ?_
 refine sr ?_
 refine wl_box wn rfl rfl hS ?_
 intro g3 w4 hS5
 have hS6 : SH _ _ _ _ _ [obj g3 [sv p0_a.Name, sv p0_a.Text] 183] := hS5
 refine wl_alloc wn rfl tf109 hS6 ?_
 intro g7 w8 hS9
 have hS10 : SH _ _ _ _ _ [obj g7 [sv [], sv []] 109, _] := hS9
 refine nr ?_
 refine wl_alloc wn rfl tf109 hS10 ?_
 intro g11 w12 hS13
 have hS14 : SH _ _ _ _ _ [obj g11 [sv [], sv []] 109, _, _] := hS13
 refine nr ?_
 refine wl_val wn rfl (rv_fieldAddr ff183_0 rfl) ?_
 refine wl_val wn rfl (rv_loadm1 tf9 rfl (.tail _ (.tail _ (.head _))) hS14 rfl) ?_
 refine wl_val wn rfl (rv_fieldAddr ff109_0 rfl) ?_
 refine wl_store (cs' := [sv p0_a.Name, sv []]) (v := sv p0_a.Name) wn tf9 rfl rfl rfl (by simp [Value.cells, Value.oneCell', sv]) hS14 rfl rfl ?_
 intro w15 hS16
 refine nr ?_
 refine wl_val wn rfl (rv_fieldAddr ff183_1 rfl) ?_
 refine wl_val wn rfl (rv_loadm1 tf9 rfl (.tail _ (.tail _ (.head _))) hS16 rfl) ?_
 refine wl_val wn rfl (rv_fieldAddr ff109_1 rfl) ?_
 refine wl_store (cs' := [sv p0_a.Name, sv p0_a.Text]) (v := sv p0_a.Text) wn tf9 rfl rfl rfl (by simp [Value.cells, Value.oneCell', sv]) hS16 rfl rfl ?_
 intro w17 hS18
 refine nr ?_
 refine wl_val wn rfl (rv_loadmS (ds := [sv p0_a.Name, sv p0_a.Text]) tf109 rfl (.head _) hS18 rfl rfl) ?_
 have hS19 : SH _ _ _ _ _ [_, _, _] := SH.front (p := [_]) hS18
 refine wl_store (cs' := [sv p0_a.Name, sv p0_a.Text]) (v := .agg #[sv p0_a.Name, sv p0_a.Text]) wn tf109 rfl rfl rfl (by simp [Value.cells, Value.oneCell', sv]) hS19 rfl rfl ?_
 intro w20 hS21
 refine nq ?_
 refine wc_ret ?_
 obtain rfl := oi hm
 have hS22 : SH _ _ _ _ _ [] := SH.sublist hS21 (.cons _ (.cons _ (.cons _ .slnil)))
 exact qe_ret (vs := [_]) Tryz.results151 ⟨⟨_, _, rfl, run_loadVar_at tf109 (cs := [sv p0_a.Name, sv p0_a.Text]) (fun j c e => by rw [Nat.zero_add, hS21.mem_obj (.head _)]; exact e) (.inl ⟨rfl, rfl, rfl⟩)⟩, trivial⟩ ⟨K, rfl, hS22, hl1, hl2⟩

theorem ok_laws_toFieldS (F : Nat) {w : World} {K : KMap} {a1 : Option Addr} {n2 c3 : Nat} {p0_a : List GField} {r : (List GField)} (hS : SH w K [] w K []) (hs4 : SliceAt tGField K a1 n2 c3 p0_a) (hm : M.laws_toFieldS F p0_a = some r) :
  Calls Tryz.prog 119 #[.slice a1 n2 c3] w fun e w' => ∃ (a_1 : Option Addr) (n_2 c_3 : Nat) (K' : KMap), e = .returned (.slice a_1 n_2 c_3) ∧ SH w K [] w' K' [tail (.slice a_1 n_2 c_3) 109 2] ∧ SliceAt tGField K' a_1 n_2 c_3 r := by
 rw [M.laws_toFieldS] at hm
 refine calls_in Tryz.func119 rfl Tryz.ntmps119 rfl ?_
 refine sr ?_
 refine wl_val wn rfl (rv_assign (v := .slice none 0 0) rfl) ?_
 refine nr ?_
 refine vm rfl rfl ?_
 refine wl_val wn rfl (rv_len (t := tGField) Tryz.underlying112 rfl hs4) ?_
 obtain ⟨x5, hx6, h7⟩ := ob hm
 refine wl_make (t := tGField) wn rfl Tryz.underlying41 tf109 rfl rfl rfl hx6 ⟨rfl, (by decide : ([] : Str).length ≤ maxLen), (by decide : ([] : Str).length ≤ maxLen)⟩ hS ?_
 intro g8 cs9 w10 hmx13 hrow11 hS12
 obtain ⟨m14, hm15⟩ : ∃ m, m = x5.length := ⟨_, rfl⟩
 rw [← hm15] at hmx13
 rw [← hm15]
 refine va rfl rfl ?_
 refine nsr ?_
 refine wl_val wn rfl (rv_assign (v := .int .i64 0) rfl) ?_
 refine nq ?_
 obtain ⟨o16, h17, h18⟩ := ob h7
 refine wc_cutg (fun E' w' => ∃ (cs23 : List Value) (K19 : KMap), E' = [(3, .slice (some ⟨g8, 0, none⟩) m14 m14)] ∧ SH w K [] w' K19 [obj g8 cs23 109] ∧ KLe K K19 ∧ RowAt true tGField K19 cs23 o16 ∧ m14 = o16.length) ?_ ?_
 ·refine wc_block ?_
  obtain ⟨r27, h28, h29⟩ := ob h17
  refine wc_while' (fun (s26 : Int × (List GField)) E' w' => ∃ (cs35 : List Value) (K30 : KMap), E' = [(0, .slice a1 n2 c3), (3, .slice (some ⟨g8, 0, none⟩) m14 m14), (4, .int .i64 s26.1)] ∧ SH w K [] w' K30 [obj g8 cs35 109] ∧ KLe K K30 ∧ rng64 s26.1 ∧ RowAt true tGField K30 cs35 s26.2 ∧ m14 = s26.2.length) h28 ⟨cs9, K, rfl, hS12, (KLe.refl _), (by decide : rng64 0), hrow11, hm15⟩ ⟨rfl, rfl, rfl, trivial⟩ ?_
  rintro s26 _ w32 r38 h39 hx40 ⟨cs35, K30, rfl, hS33, hl31, hr34, hrow36, hm37⟩
  refine wc_seq ?_
  refine sr ?_
  refine vm rfl rfl ?_
  refine vm rfl rfl ?_
  refine wl_val wn rfl (rv_len (t := tGField) Tryz.underlying112 rfl (SliceAt.mono hl31 hs4)) ?_
  refine wl_val wn rfl (rv_lss rfl rfl) ?_
  refine nq ?_
  refine wc_cond rfl (fun hb41 => ?_) (fun hb41 => ?_)
  ·have h42 := cond_t hb41 h39
   refine wc_skip ?_
   refine qs ?_
   refine wc_block ?_
   refine wc_region ?_
   refine vm rfl rfl ?_
   refine vm rfl rfl ?_
   refine vm rfl rfl ?_
   refine vm rfl rfl ?_
   obtain ⟨x43, hx44, h45⟩ := ob h42
   refine wl_indexAddr (t := tGField) wn rfl Tryz.underlying112 tf183 rfl rfl (SliceAt.mono hl31 hs4) hx44 ?_
   intro b46 o47 u48 hu49 ha50
   obtain ⟨rfl, hl51, hl52⟩ := hu49
   have ha53 : AtK _ b46 o47 [sv x43.Name, sv x43.Text] := ha50
   refine wl_val wn rfl (rv_loadS (cs := [sv x43.Name, sv x43.Text]) tf183 rfl hS33 ha53 rfl) ?_
   obtain ⟨r54, hx55, h56⟩ := ob h45
   refine wl_call wn rfl (rt_call (vs := [.agg #[sv x43.Name, sv x43.Text]]) co151 rfl) ((ok_laws_toField F) hS33.enter0 hl51 hl52 hx55) ?_
   rintro e62 w58 ⟨K57, rfl, hS59, hl60, hl61⟩
   refine ⟨_, rfl, ?_⟩
   have hS63 : SH _ _ _ _ _ [_] := SH.call0 hS33 hS59
   obtain ⟨x64, hx65, h66⟩ := ob h56
   obtain ⟨u67, hu68, hk69⟩ := RowAt.at (RowAt.mono hS59.le hrow36) hx65
   obtain ⟨rfl, hl71, hl72⟩ := hu68
   have hk70 : ∀ (j : Nat) (d : Value), [sv x64.Name, sv x64.Text][j]? = some d → cs35[s26.1.toNat * tGField.size + j]? = some d := hk69
   refine wl_val wn rfl (rv_indexRow (t := tGField) Tryz.underlying41 tf109 rfl rfl hm37 hx65) ?_
   refine wl_storeRow (t := tGField) (v := .agg #[sv r54.Name, sv r54.Text]) (e := r54) wn tf109 rfl rfl ⟨rfl, hl60, hl61⟩ hS63 (RowAt.mono hS59.le hrow36) hx65 ?_
   intro cs73 w74 hrow75 hS76
   have hm77 := hm37.trans (List.length_set (i := s26.1.toNat) (a := r54)).symm
   refine nb ?_
   refine qe_seq ?_
   refine wc_region ?_
   refine vm rfl rfl ?_
   refine wl_val wn rfl (rv_add rfl rfl) ?_
   refine va rfl rfl ?_
   refine wl_nil ?_
   obtain rfl := oi h66
   exact qe_mid' ⟨_, rfl, cs73, K57, rfl, hS76, (hl31.trans hS59.le), (w64_rng _), hrow75, hm77⟩ ⟨rfl, rfl, rfl, trivial⟩
  ·have h42 := cond_f hb41 h39
   refine wc_exit ?_
   refine qe_then_exit ?_
   refine qe_then_exit ?_
   obtain rfl := oi h42
   have e78 := hx40 _ rfl
   subst e78
   refine qe_block_eq ?_
   obtain rfl := oi h29
   exact qe_mid' ⟨cs35, K30, rfl, hS33, hl31, hrow36, hm37⟩ ⟨rfl, trivial⟩
 ·rintro _ w21 ⟨cs23, K19, rfl, hS22, hl20, hrow24, hm25⟩
  refine qr ?_
  refine vm rfl rfl ?_
  refine va rfl rfl ?_
  refine nq ?_
  refine wc_ret ?_
  obtain ⟨K79, hl80, hs81, hS82⟩ := SH.freeze hS22 hrow24 (row_max hm25 hmx13)
  rw [← hm25] at hs81 hS82
  obtain rfl := oi h18
  exact qe_ret (vs := [_]) Tryz.results119 ⟨rfl, trivial⟩ ⟨(some ⟨g8, 0, none⟩), m14, m14, K79, rfl, hS82, hs81⟩

theorem ok_laws_toAttr (F : Nat) {w : World} {K : KMap} {p0_a : GAttr} {r : GAttr} (hS : SH w K [] w K []) (hl1 : p0_a.Name.length ≤ maxLen) (hr2 : rng64 p0_a.Num) (hm : M.laws_toAttr F p0_a = some r) :
  Calls Tryz.prog 152 #[.agg #[sv p0_a.Name, .int .i64 p0_a.Num]] w fun e w' => ∃ (K' : KMap), e = .returned (.agg #[sv r.Name, .int .i64 r.Num]) ∧ SH w K [] w' K' [] ∧ r.Name.length ≤ maxLen ∧ rng64 r.Num := by
 rw [M.laws_toAttr] at hm
 refine calls_in Tryz.func152 rfl Tryz.ntmps152 rfl ?_
 refine sr ?_
 refine wl_box wn rfl rfl hS ?_
 intro g3 w4 hS5
 have hS6 : SH _ _ _ _ _ [obj g3 [sv p0_a.Name, .int .i64 p0_a.Num] 185] := hS5
 refine wl_alloc wn rfl tf152 hS6 ?_
 intro g7 w8 hS9
 have hS10 : SH _ _ _ _ _ [obj g7 [sv [], .int .i64 0] 152, _] := hS9
 refine nr ?_
 refine wl_alloc wn rfl tf152 hS10 ?_
 intro g11 w12 hS13
 have hS14 : SH _ _ _ _ _ [obj g11 [sv [], .int .i64 0] 152, _, _] := hS13
 refine nr ?_
 refine wl_val wn rfl (rv_fieldAddr ff185_0 rfl) ?_
 refine wl_val wn rfl (rv_loadm1 tf9 rfl (.tail _ (.tail _ (.head _))) hS14 rfl) ?_
 refine wl_val wn rfl (rv_fieldAddr ff152_0 rfl) ?_
 refine wl_store (cs' := [sv p0_a.Name, .int .i64 0]) (v := sv p0_a.Name) wn tf9 rfl rfl rfl (by simp [Value.cells, Value.oneCell', sv]) hS14 rfl rfl ?_
 intro w15 hS16
 refine nr ?_
 refine wl_val wn rfl (rv_fieldAddr ff185_1 rfl) ?_
 refine wl_val wn rfl (rv_loadm1 tf3 rfl (.tail _ (.tail _ (.head _))) hS16 rfl) ?_
 refine wl_val wn rfl (rv_fieldAddr ff152_1 rfl) ?_
 refine wl_store (cs' := [sv p0_a.Name, .int .i64 p0_a.Num]) (v := .int .i64 p0_a.Num) wn tf3 rfl rfl rfl (by simp [Value.cells, Value.oneCell']) hS16 rfl rfl ?_
 intro w17 hS18
 refine nr ?_
 refine wl_val wn rfl (rv_loadmS (ds := [sv p0_a.Name, .int .i64 p0_a.Num]) tf152 rfl (.head _) hS18 rfl rfl) ?_
 have hS19 : SH _ _ _ _ _ [_, _, _] := SH.front (p := [_]) hS18
 refine wl_store (cs' := [sv p0_a.Name, .int .i64 p0_a.Num]) (v := .agg #[sv p0_a.Name, .int .i64 p0_a.Num]) wn tf152 rfl rfl rfl (by simp [Value.cells, Value.oneCell', sv]) hS19 rfl rfl ?_
 intro w20 hS21
 refine nq ?_
 refine wc_ret ?_
 obtain rfl := oi hm
 have hS22 : SH _ _ _ _ _ [] := SH.sublist hS21 (.cons _ (.cons _ (.cons _ .slnil)))
 exact qe_ret (vs := [_]) Tryz.results152 ⟨⟨_, _, rfl, run_loadVar_at tf152 (cs := [sv p0_a.Name, .int .i64 p0_a.Num]) (fun j c e => by rw [Nat.zero_add, hS21.mem_obj (.head _)]; exact e) (.inl ⟨rfl, rfl, rfl⟩)⟩, trivial⟩ ⟨K, rfl, hS22, hl1, hr2⟩

theorem ok_laws_toAttrS (F : Nat) {w : World} {K : KMap} {a1 : Option Addr} {n2 c3 : Nat} {p0_a : List GAttr} {r : (List GAttr)} (hS : SH w K [] w K []) (hs4 : SliceAt tGAttr K a1 n2 c3 p0_a) (hm : M.laws_toAttrS F p0_a = some r) :
  Calls Tryz.prog 120 #[.slice a1 n2 c3] w fun e w' => ∃ (a_1 : Option Addr) (n_2 c_3 : Nat) (K' : KMap), e = .returned (.slice a_1 n_2 c_3) ∧ SH w K [] w' K' [tail (.slice a_1 n_2 c_3) 152 2] ∧ SliceAt tGAttr K' a_1 n_2 c_3 r := by
 rw [M.laws_toAttrS] at hm
 refine calls_in Tryz.func120 rfl Tryz.ntmps120 rfl ?_
 refine sr ?_
 refine wl_val wn rfl (rv_assign (v := .slice none 0 0) rfl) ?_
 refine nr ?_
 refine vm rfl rfl ?_
 refine wl_val wn rfl (rv_len (t := tGAttr) Tryz.underlying113 rfl hs4) ?_
 obtain ⟨x5, hx6, h7⟩ := ob hm
 refine wl_make (t := tGAttr) wn rfl Tryz.underlying42 tf152 rfl rfl rfl hx6 ⟨rfl, (by decide : ([] : Str).length ≤ maxLen), (by decide : rng64 0)⟩ hS ?_
 intro g8 cs9 w10 hmx13 hrow11 hS12
 obtain ⟨m14, hm15⟩ : ∃ m, m = x5.length := ⟨_, rfl⟩
 rw [← hm15] at hmx13
 rw [← hm15]
 refine va rfl rfl ?_
 refine nsr ?_
 refine wl_val wn rfl (rv_assign (v := .int .i64 0) rfl) ?_
 refine nq ?_
 obtain ⟨o16, h17, h18⟩ := ob h7
 refine wc_cutg (fun E' w' => ∃ (cs23 : List Value) (K19 : KMap), E' = [(3, .slice (some ⟨g8, 0, none⟩) m14 m14)] ∧ SH w K [] w' K19 [obj g8 cs23 152] ∧ KLe K K19 ∧ RowAt true tGAttr K19 cs23 o16 ∧ m14 = o16.length) ?_ ?_
 ·refine wc_block ?_
  obtain ⟨r27, h28, h29⟩ := ob h17
  refine wc_while' (fun (s26 : Int × (List GAttr)) E' w' => ∃ (cs35 : List Value) (K30 : KMap), E' = [(0, .slice a1 n2 c3), (3, .slice (some ⟨g8, 0, none⟩) m14 m14), (4, .int .i64 s26.1)] ∧ SH w K [] w' K30 [obj g8 cs35 152] ∧ KLe K K30 ∧ rng64 s26.1 ∧ RowAt true tGAttr K30 cs35 s26.2 ∧ m14 = s26.2.length) h28 ⟨cs9, K, rfl, hS12, (KLe.refl _), (by decide : rng64 0), hrow11, hm15⟩ ⟨rfl, rfl, rfl, trivial⟩ ?_
  rintro s26 _ w32 r38 h39 hx40 ⟨cs35, K30, rfl, hS33, hl31, hr34, hrow36, hm37⟩
  refine wc_seq ?_
  refine sr ?_
  refine vm rfl rfl ?_
  refine vm rfl rfl ?_
  refine wl_val wn rfl (rv_len (t := tGAttr) Tryz.underlying113 rfl (SliceAt.mono hl31 hs4)) ?_
  refine wl_val wn rfl (rv_lss rfl rfl) ?_
  refine nq ?_
  refine wc_cond rfl (fun hb41 => ?_) (fun hb41 => ?_)
  ·have h42 := cond_t hb41 h39
   refine wc_skip ?_
   refine qs ?_
   refine wc_block ?_
   refine wc_region ?_
   refine vm rfl rfl ?_
   refine vm rfl rfl ?_
   refine vm rfl rfl ?_
   refine vm rfl rfl ?_
   obtain ⟨x43, hx44, h45⟩ := ob h42
   refine wl_indexAddr (t := tGAttr) wn rfl Tryz.underlying113 tf185 rfl rfl (SliceAt.mono hl31 hs4) hx44 ?_
   intro b46 o47 u48 hu49 ha50
   obtain ⟨rfl, hl51, hr52⟩ := hu49
   have ha53 : AtK _ b46 o47 [sv x43.Name, .int .i64 x43.Num] := ha50
   refine wl_val wn rfl (rv_loadS (cs := [sv x43.Name, .int .i64 x43.Num]) tf185 rfl hS33 ha53 rfl) ?_
   obtain ⟨r54, hx55, h56⟩ := ob h45
   refine wl_call wn rfl (rt_call (vs := [.agg #[sv x43.Name, .int .i64 x43.Num]]) co152 rfl) ((ok_laws_toAttr F) hS33.enter0 hl51 hr52 hx55) ?_
   rintro e62 w58 ⟨K57, rfl, hS59, hl60, hr61⟩
   refine ⟨_, rfl, ?_⟩
   have hS63 : SH _ _ _ _ _ [_] := SH.call0 hS33 hS59
   obtain ⟨x64, hx65, h66⟩ := ob h56
   obtain ⟨u67, hu68, hk69⟩ := RowAt.at (RowAt.mono hS59.le hrow36) hx65
   obtain ⟨rfl, hl71, hr72⟩ := hu68
   have hk70 : ∀ (j : Nat) (d : Value), [sv x64.Name, .int .i64 x64.Num][j]? = some d → cs35[s26.1.toNat * tGAttr.size + j]? = some d := hk69
   refine wl_val wn rfl (rv_indexRow (t := tGAttr) Tryz.underlying42 tf152 rfl rfl hm37 hx65) ?_
   refine wl_storeRow (t := tGAttr) (v := .agg #[sv r54.Name, .int .i64 r54.Num]) (e := r54) wn tf152 rfl rfl ⟨rfl, hl60, hr61⟩ hS63 (RowAt.mono hS59.le hrow36) hx65 ?_
   intro cs73 w74 hrow75 hS76
   have hm77 := hm37.trans (List.length_set (i := s26.1.toNat) (a := r54)).symm
   refine nb ?_
   refine qe_seq ?_
   refine wc_region ?_
   refine vm rfl rfl ?_
   refine wl_val wn rfl (rv_add rfl rfl) ?_
   refine va rfl rfl ?_
   refine wl_nil ?_
   obtain rfl := oi h66
   exact qe_mid' ⟨_, rfl, cs73, K57, rfl, hS76, (hl31.trans hS59.le), (w64_rng _), hrow75, hm77⟩ ⟨rfl, rfl, rfl, trivial⟩
  ·have h42 := cond_f hb41 h39
   refine wc_exit ?_
   refine qe_then_exit ?_
   refine qe_then_exit ?_
   obtain rfl := oi h42
   have e78 := hx40 _ rfl
   subst e78
   refine qe_block_eq ?_
   obtain rfl := oi h29
   exact qe_mid' ⟨cs35, K30, rfl, hS33, hl31, hrow36, hm37⟩ ⟨rfl, trivial⟩
 ·rintro _ w21 ⟨cs23, K19, rfl, hS22, hl20, hrow24, hm25⟩
  refine qr ?_
  refine vm rfl rfl ?_
  refine va rfl rfl ?_
  refine nq ?_
  refine wc_ret ?_
  obtain ⟨K79, hl80, hs81, hS82⟩ := SH.freeze hS22 hrow24 (row_max hm25 hmx13)
  rw [← hm25] at hs81 hS82
  obtain rfl := oi h18
  exact qe_ret (vs := [_]) Tryz.results120 ⟨rfl, trivial⟩ ⟨(some ⟨g8, 0, none⟩), m14, m14, K79, rfl, hS82, hs81⟩

theorem ok_laws_toDoc (F : Nat) {w : World} {K : KMap} {a2 : Option Addr} {n3 c4 : Nat} {a6 : Option Addr} {n7 c8 : Nat} {p0_a : GDoc} {r : GDoc} (hS : SH w K [] w K []) (hr1 : rng64 p0_a.Id) (hs5 : SliceAt tGField K a2 n3 c4 p0_a.Fields) (hs9 : SliceAt tGAttr K a6 n7 c8 p0_a.Nums) (hm : M.laws_toDoc F p0_a = some r) :
  Calls Tryz.prog 69 #[.agg #[.int .i64 p0_a.Id, .slice a2 n3 c4, .slice a6 n7 c8]] w fun e w' => ∃ (a_2 : Option Addr) (n_3 c_4 : Nat) (a_6 : Option Addr) (n_7 c_8 : Nat) (K' : KMap), e = .returned (.agg #[.int .i64 r.Id, .slice a_2 n_3 c_4, .slice a_6 n_7 c_8]) ∧ SH w K [] w' K' [tail (.slice a_2 n_3 c_4) 109 2, tail (.slice a_6 n_7 c_8) 152 2] ∧ rng64 r.Id ∧ SliceAt tGField K' a_2 n_3 c_4 r.Fields ∧ SliceAt tGAttr K' a_6 n_7 c_8 r.Nums := by
 rw [M.laws_toDoc] at hm
 refine calls_in Tryz.func69 rfl Tryz.ntmps69 rfl ?_
 refine sr ?_
 refine wl_box wn rfl rfl hS ?_
 intro g10 w11 hS12
 have hS13 : SH _ _ _ _ _ [obj g10 [.int .i64 p0_a.Id, .slice a2 n3 c4, .slice a6 n7 c8] 115] := hS12
 refine wl_alloc wn rfl tf44 hS13 ?_
 intro g14 w15 hS16
 have hS17 : SH _ _ _ _ _ [obj g14 [.int .i64 0, .slice none 0 0, .slice none 0 0] 44, _] := hS16
 refine nr ?_
 refine wl_alloc wn rfl tf44 hS17 ?_
 intro g18 w19 hS20
 have hS21 : SH _ _ _ _ _ [obj g18 [.int .i64 0, .slice none 0 0, .slice none 0 0] 44, _, _] := hS20
 refine nr ?_
 refine wl_val wn rfl (rv_fieldAddr ff115_0 rfl) ?_
 refine wl_val wn rfl (rv_loadm1 tf3 rfl (.tail _ (.tail _ (.head _))) hS21 rfl) ?_
 refine wl_val wn rfl (rv_fieldAddr ff44_0 rfl) ?_
 refine wl_store (cs' := [.int .i64 p0_a.Id, .slice none 0 0, .slice none 0 0]) (v := .int .i64 p0_a.Id) wn tf3 rfl rfl rfl (by simp [Value.cells, Value.oneCell']) hS21 rfl rfl ?_
 intro w22 hS23
 refine nr ?_
 refine wl_val wn rfl (rv_fieldAddr ff115_1 rfl) ?_
 refine wl_val wn rfl (rv_loadm1 tf112 rfl (.tail _ (.tail _ (.head _))) hS23 rfl) ?_
 obtain ⟨r24, hx25, h26⟩ := ob hm
 refine wl_call wn rfl (rt_call (vs := [.slice a2 n3 c4]) co119 rfl) ((ok_laws_toFieldS F) hS23.enter0 hs5 hx25) ?_
 rintro e34 w28 ⟨a30, n31, c32, K27, rfl, hS29, hs33⟩
 refine ⟨_, rfl, ?_⟩
 have hS35 : SH _ _ _ _ _ [_, _, _, _] := SH.call0 hS23 hS29
 refine wl_val wn rfl (rv_fieldAddr ff44_1 rfl) ?_
 have hS36 : SH _ _ _ _ _ [_, _, _, _] := SH.front (p := [_]) hS35
 refine wl_store (cs' := [.int .i64 p0_a.Id, .slice a30 n31 c32, .slice none 0 0]) (v := .slice a30 n31 c32) wn tf41 rfl rfl rfl (by simp [Value.cells, Value.oneCell']) hS36 rfl rfl ?_
 intro w37 hS38
 refine nr ?_
 refine wl_val wn rfl (rv_fieldAddr ff115_2 rfl) ?_
 refine wl_val wn rfl (rv_loadm1 tf113 rfl (.tail _ (.tail _ (.tail _ (.head _)))) hS38 rfl) ?_
 obtain ⟨r39, hx40, h41⟩ := ob h26
 refine wl_call wn rfl (rt_call (vs := [.slice a6 n7 c8]) co120 rfl) ((ok_laws_toAttrS F) hS38.enter0 (SliceAt.mono hS29.le hs9) hx40) ?_
 rintro e49 w43 ⟨a45, n46, c47, K42, rfl, hS44, hs48⟩
 refine ⟨_, rfl, ?_⟩
 have hS50 : SH _ _ _ _ _ [_, _, _, _, _] := SH.call0 hS38 hS44
 refine wl_val wn rfl (rv_fieldAddr ff44_2 rfl) ?_
 have hS51 : SH _ _ _ _ _ [_, _, _, _, _] := SH.front (p := [_]) hS50
 refine wl_store (cs' := [.int .i64 p0_a.Id, .slice a30 n31 c32, .slice a45 n46 c47]) (v := .slice a45 n46 c47) wn tf42 rfl rfl rfl (by simp [Value.cells, Value.oneCell']) hS51 rfl rfl ?_
 intro w52 hS53
 refine nr ?_
 refine wl_val wn rfl (rv_loadmS (ds := [.int .i64 p0_a.Id, .slice a30 n31 c32, .slice a45 n46 c47]) tf44 rfl (.head _) hS53 rfl rfl) ?_
 have hS54 : SH _ _ _ _ _ [_, _, _, _, _] := SH.front (p := [_, _, _]) hS53
 refine wl_store (cs' := [.int .i64 p0_a.Id, .slice a30 n31 c32, .slice a45 n46 c47]) (v := .agg #[.int .i64 p0_a.Id, .slice a30 n31 c32, .slice a45 n46 c47]) wn tf44 rfl rfl rfl (by simp [Value.cells, Value.oneCell']) hS54 rfl rfl ?_
 intro w55 hS56
 refine nq ?_
 refine wc_ret ?_
 obtain rfl := oi h41
 have hS57 : SH _ _ _ _ _ [_, _, _, _, _] := SH.front (p := [_, _]) hS56
 have hS58 : SH _ _ _ _ _ [_, _, _, _, _] := SH.front (p := [_, _, _]) hS57
 have hS59 : SH _ _ _ _ _ [_, _] := SH.sublist hS58 (.cons_cons _ (.cons_cons _ (.cons _ (.cons _ (.cons _ .slnil)))))
 exact qe_ret (vs := [_]) Tryz.results69 ⟨⟨_, _, rfl, run_loadVar_at tf44 (cs := [.int .i64 p0_a.Id, .slice a30 n31 c32, .slice a45 n46 c47]) (fun j c e => by rw [Nat.zero_add, hS56.mem_obj (.head _)]; exact e) (.inl ⟨rfl, rfl, rfl⟩)⟩, trivial⟩ ⟨a30, n31, c32, a45, n46, c47, K42, rfl, hS59, hr1, (SliceAt.mono hS44.le hs33), hs48⟩

theorem ok_laws_toDocS (F : Nat) {w : World} {K : KMap} {a1 : Option Addr} {n2 c3 : Nat} {p0_a : List GDoc} {r : (List GDoc)} (hS : SH w K [] w K []) (hs4 : SliceAt tGDoc K a1 n2 c3 p0_a) (hm : M.laws_toDocS F p0_a = some r) :
  Calls Tryz.prog 22 #[.slice a1 n2 c3] w fun e w' => ∃ (a_1 : Option Addr) (n_2 c_3 : Nat) (K' : KMap), e = .returned (.slice a_1 n_2 c_3) ∧ SH w K [] w' K' [tail (.slice a_1 n_2 c_3) 44 3] ∧ SliceAt tGDoc K' a_1 n_2 c_3 r := by
 rw [M.laws_toDocS] at hm
 refine calls_in Tryz.func22 rfl Tryz.ntmps22 rfl ?_
 refine sr ?_
 refine wl_val wn rfl (rv_assign (v := .slice none 0 0) rfl) ?_
 refine nr ?_
 refine vm rfl rfl ?_
 refine wl_val wn rfl (rv_len (t := tGDoc) Tryz.underlying54 rfl hs4) ?_
 obtain ⟨x5, hx6, h7⟩ := ob hm
 refine wl_make (t := tGDoc) wn rfl Tryz.underlying27 tf44 rfl rfl rfl hx6 ⟨none, 0, 0, none, 0, 0, rfl, (by decide : rng64 0), (SliceAt.nil _ _), (SliceAt.nil _ _)⟩ hS ?_
 intro g8 cs9 w10 hmx13 hrow11 hS12
 obtain ⟨m14, hm15⟩ : ∃ m, m = x5.length := ⟨_, rfl⟩
 rw [← hm15] at hmx13
 rw [← hm15]
 refine va rfl rfl ?_
 refine nsr ?_
 refine wl_val wn rfl (rv_assign (v := .int .i64 0) rfl) ?_
 refine nq ?_
 obtain ⟨o16, h17, h18⟩ := ob h7
 refine wc_cutg (fun E' w' => ∃ (cs23 : List Value) (K19 : KMap), E' = [(3, .slice (some ⟨g8, 0, none⟩) m14 m14)] ∧ SH w K [] w' K19 [obj g8 cs23 44] ∧ KLe K K19 ∧ RowAt true tGDoc K19 cs23 o16 ∧ m14 = o16.length) ?_ ?_
 ·refine wc_block ?_
  obtain ⟨r27, h28, h29⟩ := ob h17
  refine wc_while' (fun (s26 : Int × (List GDoc)) E' w' => ∃ (cs35 : List Value) (K30 : KMap), E' = [(0, .slice a1 n2 c3), (3, .slice (some ⟨g8, 0, none⟩) m14 m14), (4, .int .i64 s26.1)] ∧ SH w K [] w' K30 [obj g8 cs35 44] ∧ KLe K K30 ∧ rng64 s26.1 ∧ RowAt true tGDoc K30 cs35 s26.2 ∧ m14 = s26.2.length) h28 ⟨cs9, K, rfl, hS12, (KLe.refl _), (by decide : rng64 0), hrow11, hm15⟩ ⟨rfl, rfl, rfl, trivial⟩ ?_
  rintro s26 _ w32 r38 h39 hx40 ⟨cs35, K30, rfl, hS33, hl31, hr34, hrow36, hm37⟩
  refine wc_seq ?_
  refine sr ?_
  refine vm rfl rfl ?_
  refine vm rfl rfl ?_
  refine wl_val wn rfl (rv_len (t := tGDoc) Tryz.underlying54 rfl (SliceAt.mono hl31 hs4)) ?_
  refine wl_val wn rfl (rv_lss rfl rfl) ?_
  refine nq ?_
  refine wc_cond rfl (fun hb41 => ?_) (fun hb41 => ?_)
  ·have h42 := cond_t hb41 h39
   refine wc_skip ?_
   refine qs ?_
   refine wc_block ?_
   refine wc_region ?_
   refine vm rfl rfl ?_
   refine vm rfl rfl ?_
   refine vm rfl rfl ?_
   refine vm rfl rfl ?_
   obtain ⟨x43, hx44, h45⟩ := ob h42
   refine wl_indexAddr (t := tGDoc) wn rfl Tryz.underlying54 tf115 rfl rfl (SliceAt.mono hl31 hs4) hx44 ?_
   intro b46 o47 u48 hu49 ha50
   obtain ⟨a52, n53, c54, a56, n57, c58, rfl, hr51, hs55, hs59⟩ := hu49
   have ha60 : AtK _ b46 o47 [.int .i64 x43.Id, .slice a52 n53 c54, .slice a56 n57 c58] := ha50
   refine wl_val wn rfl (rv_loadS (cs := [.int .i64 x43.Id, .slice a52 n53 c54, .slice a56 n57 c58]) tf115 rfl hS33 ha60 rfl) ?_
   obtain ⟨r61, hx62, h63⟩ := ob h45
   refine wl_call wn rfl (rt_call (vs := [.agg #[.int .i64 x43.Id, .slice a52 n53 c54, .slice a56 n57 c58]]) co69 rfl) ((ok_laws_toDoc F) hS33.enter0 hr51 hs55 hs59 hx62) ?_
   rintro e76 w65 ⟨a68, n69, c70, a72, n73, c74, K64, rfl, hS66, hr67, hs71, hs75⟩
   refine ⟨_, rfl, ?_⟩
   have hS77 : SH _ _ _ _ _ [_, _, _] := SH.call0 hS33 hS66
   obtain ⟨x78, hx79, h80⟩ := ob h63
   obtain ⟨u81, hu82, hk83⟩ := RowAt.at (RowAt.mono hS66.le hrow36) hx79
   obtain ⟨a86, n87, c88, a90, n91, c92, rfl, hr85, hs89, hs93⟩ := hu82
   have hk84 : ∀ (j : Nat) (d : Value), [.int .i64 x78.Id, .slice a86 n87 c88, .slice a90 n91 c92][j]? = some d → cs35[s26.1.toNat * tGDoc.size + j]? = some d := hk83
   refine wl_val wn rfl (rv_indexRow (t := tGDoc) Tryz.underlying27 tf44 rfl rfl hm37 hx79) ?_
   have hS94 : SH _ _ _ _ _ [_, _, _] := SH.front (p := [_, _]) hS77
   refine wl_storeRow (t := tGDoc) (v := .agg #[.int .i64 r61.Id, .slice a68 n69 c70, .slice a72 n73 c74]) (e := r61) wn tf44 rfl rfl ⟨a68, n69, c70, a72, n73, c74, rfl, hr67, hs71, hs75⟩ hS94 (RowAt.mono hS66.le hrow36) hx79 ?_
   intro cs95 w96 hrow97 hS98
   have hm99 := hm37.trans (List.length_set (i := s26.1.toNat) (a := r61)).symm
   refine nb ?_
   refine qe_seq ?_
   refine wc_region ?_
   refine vm rfl rfl ?_
   refine wl_val wn rfl (rv_add rfl rfl) ?_
   refine va rfl rfl ?_
   refine wl_nil ?_
   obtain rfl := oi h80
   have hS100 : SH _ _ _ _ _ [_] := SH.sublist hS98 (.cons_cons _ (.cons _ (.cons _ .slnil)))
   exact qe_mid' ⟨_, rfl, cs95, K64, rfl, hS100, (hl31.trans hS66.le), (w64_rng _), hrow97, hm99⟩ ⟨rfl, rfl, rfl, trivial⟩
  ·have h42 := cond_f hb41 h39
   refine wc_exit ?_
   refine qe_then_exit ?_
   refine qe_then_exit ?_
   obtain rfl := oi h42
   have e101 := hx40 _ rfl
   subst e101
   refine qe_block_eq ?_
   obtain rfl := oi h29
   exact qe_mid' ⟨cs35, K30, rfl, hS33, hl31, hrow36, hm37⟩ ⟨rfl, trivial⟩
 ·rintro _ w21 ⟨cs23, K19, rfl, hS22, hl20, hrow24, hm25⟩
  refine qr ?_
  refine vm rfl rfl ?_
  refine va rfl rfl ?_
  refine nq ?_
  refine wc_ret ?_
  obtain ⟨K102, hl103, hs104, hS105⟩ := SH.freeze hS22 hrow24 (row_max hm25 hmx13)
  rw [← hm25] at hs104 hS105
  obtain rfl := oi h18
  exact qe_ret (vs := [_]) Tryz.results22 ⟨rfl, trivial⟩ ⟨(some ⟨g8, 0, none⟩), m14, m14, K102, rfl, hS105, hs104⟩

theorem ok_laws_toIntS (F : Nat) {w : World} {K : KMap} {a1 : Option Addr} {n2 c3 : Nat} {p0_a : List Int} {r : (List Int)} (hS : SH w K [] w K []) (hs4 : SliceAt tInt K a1 n2 c3 p0_a) (hm : M.laws_toIntS F p0_a = some r) :
  Calls Tryz.prog 183 #[.slice a1 n2 c3] w fun e w' => ∃ (a_1 : Option Addr) (n_2 c_3 : Nat) (K' : KMap), e = .returned (.slice a_1 n_2 c_3) ∧ SH w K [] w' K' [tail (.slice a_1 n_2 c_3) 3 1] ∧ SliceAt tInt K' a_1 n_2 c_3 r := by
 rw [M.laws_toIntS] at hm
 refine calls_in Tryz.func183 rfl Tryz.ntmps183 rfl ?_
 refine sr ?_
 refine wl_val wn rfl (rv_assign (v := .slice none 0 0) rfl) ?_
 refine nr ?_
 refine vm rfl rfl ?_
 refine wl_val wn rfl (rv_len (t := tInt) Tryz.underlying37 rfl hs4) ?_
 obtain ⟨x5, hx6, h7⟩ := ob hm
 refine wl_make (t := tInt) wn rfl Tryz.underlying37 tf3 rfl rfl rfl hx6 ⟨rfl, (by decide : rng64 0)⟩ hS ?_
 intro g8 cs9 w10 hmx13 hrow11 hS12
 obtain ⟨m14, hm15⟩ : ∃ m, m = x5.length := ⟨_, rfl⟩
 rw [← hm15] at hmx13
 rw [← hm15]
 refine va rfl rfl ?_
 refine nsr ?_
 refine wl_val wn rfl (rv_assign (v := .int .i64 0) rfl) ?_
 refine nq ?_
 obtain ⟨o16, h17, h18⟩ := ob h7
 refine wc_cutg (fun E' w' => ∃ (cs23 : List Value) (K19 : KMap), E' = [(3, .slice (some ⟨g8, 0, none⟩) m14 m14)] ∧ SH w K [] w' K19 [obj g8 cs23 3] ∧ KLe K K19 ∧ RowAt true tInt K19 cs23 o16 ∧ m14 = o16.length) ?_ ?_
 ·refine wc_block ?_
  obtain ⟨r27, h28, h29⟩ := ob h17
  refine wc_while' (fun (s26 : Int × (List Int)) E' w' => ∃ (cs35 : List Value) (K30 : KMap), E' = [(0, .slice a1 n2 c3), (3, .slice (some ⟨g8, 0, none⟩) m14 m14), (4, .int .i64 s26.1)] ∧ SH w K [] w' K30 [obj g8 cs35 3] ∧ KLe K K30 ∧ rng64 s26.1 ∧ RowAt true tInt K30 cs35 s26.2 ∧ m14 = s26.2.length) h28 ⟨cs9, K, rfl, hS12, (KLe.refl _), (by decide : rng64 0), hrow11, hm15⟩ ⟨rfl, rfl, rfl, trivial⟩ ?_
  rintro s26 _ w32 r38 h39 hx40 ⟨cs35, K30, rfl, hS33, hl31, hr34, hrow36, hm37⟩
  refine wc_seq ?_
  refine sr ?_
  refine vm rfl rfl ?_
  refine vm rfl rfl ?_
  refine wl_val wn rfl (rv_len (t := tInt) Tryz.underlying37 rfl (SliceAt.mono hl31 hs4)) ?_
  refine wl_val wn rfl (rv_lss rfl rfl) ?_
  refine nq ?_
  refine wc_cond rfl (fun hb41 => ?_) (fun hb41 => ?_)
  ·have h42 := cond_t hb41 h39
   refine wc_skip ?_
   refine qs ?_
   refine wc_block ?_
   refine wc_region ?_
   refine vm rfl rfl ?_
   refine vm rfl rfl ?_
   refine vm rfl rfl ?_
   refine vm rfl rfl ?_
   obtain ⟨x43, hx44, h45⟩ := ob h42
   refine wl_indexAddr (t := tInt) wn rfl Tryz.underlying37 tf3 rfl rfl (SliceAt.mono hl31 hs4) hx44 ?_
   intro b46 o47 u48 hu49 ha50
   obtain ⟨rfl, hr51⟩ := hu49
   have ha52 : AtK _ b46 o47 [.int .i64 x43] := ha50
   refine wl_val wn rfl (rv_load1 tf3 rfl hS33 (ha52 0 _ rfl)) ?_
   obtain ⟨x53, hx54, h55⟩ := ob h45
   obtain ⟨u56, hu57, hk58⟩ := RowAt.at hrow36 hx54
   obtain ⟨rfl, hr60⟩ := hu57
   have hk59 : ∀ (j : Nat) (d : Value), [.int .i64 x53][j]? = some d → cs35[s26.1.toNat * tInt.size + j]? = some d := hk58
   refine wl_val wn rfl (rv_indexRow (t := tInt) Tryz.underlying37 tf3 rfl rfl hm37 hx54) ?_
   refine wl_storeRow (t := tInt) (v := .int .i64 x43) (e := x43) wn tf3 rfl rfl ⟨rfl, hr51⟩ hS33 hrow36 hx54 ?_
   intro cs61 w62 hrow63 hS64
   have hm65 := hm37.trans (List.length_set (i := s26.1.toNat) (a := x43)).symm
   refine nb ?_
   refine qe_seq ?_
   refine wc_region ?_
   refine vm rfl rfl ?_
   refine wl_val wn rfl (rv_add rfl rfl) ?_
   refine va rfl rfl ?_
   refine wl_nil ?_
   obtain rfl := oi h55
   exact qe_mid' ⟨_, rfl, cs61, K30, rfl, hS64, hl31, (w64_rng _), hrow63, hm65⟩ ⟨rfl, rfl, rfl, trivial⟩
  ·have h42 := cond_f hb41 h39
   refine wc_exit ?_
   refine qe_then_exit ?_
   refine qe_then_exit ?_
   obtain rfl := oi h42
   have e66 := hx40 _ rfl
   subst e66
   refine qe_block_eq ?_
   obtain rfl := oi h29
   exact qe_mid' ⟨cs35, K30, rfl, hS33, hl31, hrow36, hm37⟩ ⟨rfl, trivial⟩
 ·rintro _ w21 ⟨cs23, K19, rfl, hS22, hl20, hrow24, hm25⟩
  refine qr ?_
  refine vm rfl rfl ?_
  refine va rfl rfl ?_
  refine nq ?_
  refine wc_ret ?_
  obtain ⟨K67, hl68, hs69, hS70⟩ := SH.freeze hS22 hrow24 (row_max hm25 hmx13)
  rw [← hm25] at hs69 hS70
  obtain rfl := oi h18
  exact qe_ret (vs := [_]) Tryz.results183 ⟨rfl, trivial⟩ ⟨(some ⟨g8, 0, none⟩), m14, m14, K67, rfl, hS70, hs69⟩

theorem ok_laws_toPost (F : Nat) {w : World} {K : KMap} {a2 : Option Addr} {n3 c4 : Nat} {p0_a : GPost} {r : GPost} (hS : SH w K [] w K []) (hr1 : rng64 p0_a.Doc) (hs5 : SliceAt tInt K a2 n3 c4 p0_a.At) (hm : M.laws_toPost F p0_a = some r) :
  Calls Tryz.prog 177 #[.agg #[.int .i64 p0_a.Doc, .slice a2 n3 c4]] w fun e w' => ∃ (a_2 : Option Addr) (n_3 c_4 : Nat) (K' : KMap), e = .returned (.agg #[.int .i64 r.Doc, .slice a_2 n_3 c_4]) ∧ SH w K [] w' K' [tail (.slice a_2 n_3 c_4) 3 1] ∧ rng64 r.Doc ∧ SliceAt tInt K' a_2 n_3 c_4 r.At := by
 rw [M.laws_toPost] at hm
 refine calls_in Tryz.func177 rfl Tryz.ntmps177 rfl ?_
 refine sr ?_
 refine wl_box wn rfl rfl hS ?_
 intro g6 w7 hS8
 have hS9 : SH _ _ _ _ _ [obj g6 [.int .i64 p0_a.Doc, .slice a2 n3 c4] 216] := hS8
 refine wl_alloc wn rfl tf48 hS9 ?_
 intro g10 w11 hS12
 have hS13 : SH _ _ _ _ _ [obj g10 [.int .i64 0, .slice none 0 0] 48, _] := hS12
 refine nr ?_
 refine wl_alloc wn rfl tf48 hS13 ?_
 intro g14 w15 hS16
 have hS17 : SH _ _ _ _ _ [obj g14 [.int .i64 0, .slice none 0 0] 48, _, _] := hS16
 refine nr ?_
 refine wl_val wn rfl (rv_fieldAddr ff216_0 rfl) ?_
 refine wl_val wn rfl (rv_loadm1 tf3 rfl (.tail _ (.tail _ (.head _))) hS17 rfl) ?_
 refine wl_val wn rfl (rv_fieldAddr ff48_0 rfl) ?_
 refine wl_store (cs' := [.int .i64 p0_a.Doc, .slice none 0 0]) (v := .int .i64 p0_a.Doc) wn tf3 rfl rfl rfl (by simp [Value.cells, Value.oneCell']) hS17 rfl rfl ?_
 intro w18 hS19
 refine nr ?_
 refine wl_val wn rfl (rv_fieldAddr ff216_1 rfl) ?_
 refine wl_val wn rfl (rv_loadm1 tf37 rfl (.tail _ (.tail _ (.head _))) hS19 rfl) ?_
 obtain ⟨r20, hx21, h22⟩ := ob hm
 refine wl_call wn rfl (rt_call (vs := [.slice a2 n3 c4]) co183 rfl) ((ok_laws_toIntS F) hS19.enter0 hs5 hx21) ?_
 rintro e30 w24 ⟨a26, n27, c28, K23, rfl, hS25, hs29⟩
 refine ⟨_, rfl, ?_⟩
 have hS31 : SH _ _ _ _ _ [_, _, _, _] := SH.call0 hS19 hS25
 refine wl_val wn rfl (rv_fieldAddr ff48_1 rfl) ?_
 have hS32 : SH _ _ _ _ _ [_, _, _, _] := SH.front (p := [_]) hS31
 refine wl_store (cs' := [.int .i64 p0_a.Doc, .slice a26 n27 c28]) (v := .slice a26 n27 c28) wn tf37 rfl rfl rfl (by simp [Value.cells, Value.oneCell']) hS32 rfl rfl ?_
 intro w33 hS34
 refine nr ?_
 refine wl_val wn rfl (rv_loadmS (ds := [.int .i64 p0_a.Doc, .slice a26 n27 c28]) tf48 rfl (.head _) hS34 rfl rfl) ?_
 have hS35 : SH _ _ _ _ _ [_, _, _, _] := SH.front (p := [_, _]) hS34
 refine wl_store (cs' := [.int .i64 p0_a.Doc, .slice a26 n27 c28]) (v := .agg #[.int .i64 p0_a.Doc, .slice a26 n27 c28]) wn tf48 rfl rfl rfl (by simp [Value.cells, Value.oneCell']) hS35 rfl rfl ?_
 intro w36 hS37
 refine nq ?_
 refine wc_ret ?_
 obtain rfl := oi h22
 have hS38 : SH _ _ _ _ _ [_] := SH.sublist hS37 (.cons _ (.cons _ (.cons_cons _ (.cons _ .slnil))))
 exact qe_ret (vs := [_]) Tryz.results177 ⟨⟨_, _, rfl, run_loadVar_at tf48 (cs := [.int .i64 p0_a.Doc, .slice a26 n27 c28]) (fun j c e => by rw [Nat.zero_add, hS37.mem_obj (.head _)]; exact e) (.inl ⟨rfl, rfl, rfl⟩)⟩, trivial⟩ ⟨a26, n27, c28, K23, rfl, hS38, hr1, hs29⟩

theorem ok_laws_toPostS (F : Nat) {w : World} {K : KMap} {a1 : Option Addr} {n2 c3 : Nat} {p0_a : List GPost} {r : (List GPost)} (hS : SH w K [] w K []) (hs4 : SliceAt tGPost K a1 n2 c3 p0_a) (hm : M.laws_toPostS F p0_a = some r) :
  Calls Tryz.prog 166 #[.slice a1 n2 c3] w fun e w' => ∃ (a_1 : Option Addr) (n_2 c_3 : Nat) (K' : KMap), e = .returned (.slice a_1 n_2 c_3) ∧ SH w K [] w' K' [tail (.slice a_1 n_2 c_3) 48 2] ∧ SliceAt tGPost K' a_1 n_2 c_3 r := by
 rw [M.laws_toPostS] at hm
 refine calls_in Tryz.func166 rfl Tryz.ntmps166 rfl ?_
 refine sr ?_
 refine wl_val wn rfl (rv_assign (v := .slice none 0 0) rfl) ?_
 refine nr ?_
 refine vm rfl rfl ?_
 refine wl_val wn rfl (rv_len (t := tGPost) Tryz.underlying174 rfl hs4) ?_
 obtain ⟨x5, hx6, h7⟩ := ob hm
 refine wl_make (t := tGPost) wn rfl Tryz.underlying33 tf48 rfl rfl rfl hx6 ⟨none, 0, 0, rfl, (by decide : rng64 0), (SliceAt.nil _ _)⟩ hS ?_
 intro g8 cs9 w10 hmx13 hrow11 hS12
 obtain ⟨m14, hm15⟩ : ∃ m, m = x5.length := ⟨_, rfl⟩
 rw [← hm15] at hmx13
 rw [← hm15]
 refine va rfl rfl ?_
 refine nsr ?_
 refine wl_val wn rfl (rv_assign (v := .int .i64 0) rfl) ?_
 refine nq ?_
 obtain ⟨o16, h17, h18⟩ := ob h7
 refine wc_cutg (fun E' w' => ∃ (cs23 : List Value) (K19 : KMap), E' = [(3, .slice (some ⟨g8, 0, none⟩) m14 m14)] ∧ SH w K [] w' K19 [obj g8 cs23 48] ∧ KLe K K19 ∧ RowAt true tGPost K19 cs23 o16 ∧ m14 = o16.length) ?_ ?_
 ·refine wc_block ?_
  obtain ⟨r27, h28, h29⟩ := ob h17
  refine wc_while' (fun (s26 : Int × (List GPost)) E' w' => ∃ (cs35 : List Value) (K30 : KMap), E' = [(0, .slice a1 n2 c3), (3, .slice (some ⟨g8, 0, none⟩) m14 m14), (4, .int .i64 s26.1)] ∧ SH w K [] w' K30 [obj g8 cs35 48] ∧ KLe K K30 ∧ rng64 s26.1 ∧ RowAt true tGPost K30 cs35 s26.2 ∧ m14 = s26.2.length) h28 ⟨cs9, K, rfl, hS12, (KLe.refl _), (by decide : rng64 0), hrow11, hm15⟩ ⟨rfl, rfl, rfl, trivial⟩ ?_
  rintro s26 _ w32 r38 h39 hx40 ⟨cs35, K30, rfl, hS33, hl31, hr34, hrow36, hm37⟩
  refine wc_seq ?_
  refine sr ?_
  refine vm rfl rfl ?_
  refine vm rfl rfl ?_
  refine wl_val wn rfl (rv_len (t := tGPost) Tryz.underlying174 rfl (SliceAt.mono hl31 hs4)) ?_
  refine wl_val wn rfl (rv_lss rfl rfl) ?_
  refine nq ?_
  refine wc_cond rfl (fun hb41 => ?_) (fun hb41 => ?_)
  ·have h42 := cond_t hb41 h39
   refine wc_skip ?_
   refine qs ?_
   refine wc_block ?_
   refine wc_region ?_
   refine vm rfl rfl ?_
   refine vm rfl rfl ?_
   refine vm rfl rfl ?_
   refine vm rfl rfl ?_
   obtain ⟨x43, hx44, h45⟩ := ob h42
   refine wl_indexAddr (t := tGPost) wn rfl Tryz.underlying174 tf216 rfl rfl (SliceAt.mono hl31 hs4) hx44 ?_
   intro b46 o47 u48 hu49 ha50
   obtain ⟨a52, n53, c54, rfl, hr51, hs55⟩ := hu49
   have ha56 : AtK _ b46 o47 [.int .i64 x43.Doc, .slice a52 n53 c54] := ha50
   refine wl_val wn rfl (rv_loadS (cs := [.int .i64 x43.Doc, .slice a52 n53 c54]) tf216 rfl hS33 ha56 rfl) ?_
   obtain ⟨r57, hx58, h59⟩ := ob h45
   refine wl_call wn rfl (rt_call (vs := [.agg #[.int .i64 x43.Doc, .slice a52 n53 c54]]) co177 rfl) ((ok_laws_toPost F) hS33.enter0 hr51 hs55 hx58) ?_
   rintro e68 w61 ⟨a64, n65, c66, K60, rfl, hS62, hr63, hs67⟩
   refine ⟨_, rfl, ?_⟩
   have hS69 : SH _ _ _ _ _ [_, _] := SH.call0 hS33 hS62
   obtain ⟨x70, hx71, h72⟩ := ob h59
   obtain ⟨u73, hu74, hk75⟩ := RowAt.at (RowAt.mono hS62.le hrow36) hx71
   obtain ⟨a78, n79, c80, rfl, hr77, hs81⟩ := hu74
   have hk76 : ∀ (j : Nat) (d : Value), [.int .i64 x70.Doc, .slice a78 n79 c80][j]? = some d → cs35[s26.1.toNat * tGPost.size + j]? = some d := hk75
   refine wl_val wn rfl (rv_indexRow (t := tGPost) Tryz.underlying33 tf48 rfl rfl hm37 hx71) ?_
   have hS82 : SH _ _ _ _ _ [_, _] := SH.front (p := [_]) hS69
   refine wl_storeRow (t := tGPost) (v := .agg #[.int .i64 r57.Doc, .slice a64 n65 c66]) (e := r57) wn tf48 rfl rfl ⟨a64, n65, c66, rfl, hr63, hs67⟩ hS82 (RowAt.mono hS62.le hrow36) hx71 ?_
   intro cs83 w84 hrow85 hS86
   have hm87 := hm37.trans (List.length_set (i := s26.1.toNat) (a := r57)).symm
   refine nb ?_
   refine qe_seq ?_
   refine wc_region ?_
   refine vm rfl rfl ?_
   refine wl_val wn rfl (rv_add rfl rfl) ?_
   refine va rfl rfl ?_
   refine wl_nil ?_
   obtain rfl := oi h72
   have hS88 : SH _ _ _ _ _ [_] := SH.sublist hS86 (.cons_cons _ (.cons _ .slnil))
   exact qe_mid' ⟨_, rfl, cs83, K60, rfl, hS88, (hl31.trans hS62.le), (w64_rng _), hrow85, hm87⟩ ⟨rfl, rfl, rfl, trivial⟩
  ·have h42 := cond_f hb41 h39
   refine wc_exit ?_
   refine qe_then_exit ?_
   refine qe_then_exit ?_
   obtain rfl := oi h42
   have e89 := hx40 _ rfl
   subst e89
   refine qe_block_eq ?_
   obtain rfl := oi h29
   exact qe_mid' ⟨cs35, K30, rfl, hS33, hl31, hrow36, hm37⟩ ⟨rfl, trivial⟩
 ·rintro _ w21 ⟨cs23, K19, rfl, hS22, hl20, hrow24, hm25⟩
  refine qr ?_
  refine vm rfl rfl ?_
  refine va rfl rfl ?_
  refine nq ?_
  refine wc_ret ?_
  obtain ⟨K90, hl91, hs92, hS93⟩ := SH.freeze hS22 hrow24 (row_max hm25 hmx13)
  rw [← hm25] at hs92 hS93
  obtain rfl := oi h18
  exact qe_ret (vs := [_]) Tryz.results166 ⟨rfl, trivial⟩ ⟨(some ⟨g8, 0, none⟩), m14, m14, K90, rfl, hS93, hs92⟩

theorem ok_laws_toEntry (F : Nat) {w : World} {K : KMap} {a3 : Option Addr} {n4 c5 : Nat} {p0_a : GEntry} {r : GEntry} (hS : SH w K [] w K []) (hl1 : p0_a.Field.length ≤ maxLen) (hl2 : p0_a.Term.length ≤ maxLen) (hs6 : SliceAt tGPost K a3 n4 c5 p0_a.Posts) (hm : M.laws_toEntry F p0_a = some r) :
  Calls Tryz.prog 134 #[.agg #[sv p0_a.Field, sv p0_a.Term, .slice a3 n4 c5]] w fun e w' => ∃ (a_3 : Option Addr) (n_4 c_5 : Nat) (K' : KMap), e = .returned (.agg #[sv r.Field, sv r.Term, .slice a_3 n_4 c_5]) ∧ SH w K [] w' K' [tail (.slice a_3 n_4 c_5) 48 2] ∧ r.Field.length ≤ maxLen ∧ r.Term.length ≤ maxLen ∧ SliceAt tGPost K' a_3 n_4 c_5 r.Posts := by
 rw [M.laws_toEntry] at hm
 refine calls_in Tryz.func134 rfl Tryz.ntmps134 rfl ?_
 refine sr ?_
 refine wl_box wn rfl rfl hS ?_
 intro g7 w8 hS9
 have hS10 : SH _ _ _ _ _ [obj g7 [sv p0_a.Field, sv p0_a.Term, .slice a3 n4 c5] 176] := hS9
 refine wl_alloc wn rfl tf94 hS10 ?_
 intro g11 w12 hS13
 have hS14 : SH _ _ _ _ _ [obj g11 [sv [], sv [], .slice none 0 0] 94, _] := hS13
 refine nr ?_
 refine wl_alloc wn rfl tf94 hS14 ?_
 intro g15 w16 hS17
 have hS18 : SH _ _ _ _ _ [obj g15 [sv [], sv [], .slice none 0 0] 94, _, _] := hS17
 refine nr ?_
 refine wl_val wn rfl (rv_fieldAddr ff176_0 rfl) ?_
 refine wl_val wn rfl (rv_loadm1 tf9 rfl (.tail _ (.tail _ (.head _))) hS18 rfl) ?_
 refine wl_val wn rfl (rv_fieldAddr ff94_0 rfl) ?_
 refine wl_store (cs' := [sv p0_a.Field, sv [], .slice none 0 0]) (v := sv p0_a.Field) wn tf9 rfl rfl rfl (by simp [Value.cells, Value.oneCell', sv]) hS18 rfl rfl ?_
 intro w19 hS20
 refine nr ?_
 refine wl_val wn rfl (rv_fieldAddr ff176_1 rfl) ?_
 refine wl_val wn rfl (rv_loadm1 tf9 rfl (.tail _ (.tail _ (.head _))) hS20 rfl) ?_
 refine wl_val wn rfl (rv_fieldAddr ff94_1 rfl) ?_
 refine wl_store (cs' := [sv p0_a.Field, sv p0_a.Term, .slice none 0 0]) (v := sv p0_a.Term) wn tf9 rfl rfl rfl (by simp [Value.cells, Value.oneCell', sv]) hS20 rfl rfl ?_
 intro w21 hS22
 refine nr ?_
 refine wl_val wn rfl (rv_fieldAddr ff176_2 rfl) ?_
 refine wl_val wn rfl (rv_loadm1 tf174 rfl (.tail _ (.tail _ (.head _))) hS22 rfl) ?_
 obtain ⟨r23, hx24, h25⟩ := ob hm
 refine wl_call wn rfl (rt_call (vs := [.slice a3 n4 c5]) co166 rfl) ((ok_laws_toPostS F) hS22.enter0 hs6 hx24) ?_
 rintro e33 w27 ⟨a29, n30, c31, K26, rfl, hS28, hs32⟩
 refine ⟨_, rfl, ?_⟩
 have hS34 : SH _ _ _ _ _ [_, _, _, _] := SH.call0 hS22 hS28
 refine wl_val wn rfl (rv_fieldAddr ff94_2 rfl) ?_
 have hS35 : SH _ _ _ _ _ [_, _, _, _] := SH.front (p := [_]) hS34
 refine wl_store (cs' := [sv p0_a.Field, sv p0_a.Term, .slice a29 n30 c31]) (v := .slice a29 n30 c31) wn tf33 rfl rfl rfl (by simp [Value.cells, Value.oneCell']) hS35 rfl rfl ?_
 intro w36 hS37
 refine nr ?_
 refine wl_val wn rfl (rv_loadmS (ds := [sv p0_a.Field, sv p0_a.Term, .slice a29 n30 c31]) tf94 rfl (.head _) hS37 rfl rfl) ?_
 have hS38 : SH _ _ _ _ _ [_, _, _, _] := SH.front (p := [_, _]) hS37
 refine wl_store (cs' := [sv p0_a.Field, sv p0_a.Term, .slice a29 n30 c31]) (v := .agg #[sv p0_a.Field, sv p0_a.Term, .slice a29 n30 c31]) wn tf94 rfl rfl rfl (by simp [Value.cells, Value.oneCell', sv]) hS38 rfl rfl ?_
 intro w39 hS40
 refine nq ?_
 refine wc_ret ?_
 obtain rfl := oi h25
 have hS41 : SH _ _ _ _ _ [_] := SH.sublist hS40 (.cons _ (.cons _ (.cons_cons _ (.cons _ .slnil))))
 exact qe_ret (vs := [_]) Tryz.results134 ⟨⟨_, _, rfl, run_loadVar_at tf94 (cs := [sv p0_a.Field, sv p0_a.Term, .slice a29 n30 c31]) (fun j c e => by rw [Nat.zero_add, hS40.mem_obj (.head _)]; exact e) (.inl ⟨rfl, rfl, rfl⟩)⟩, trivial⟩ ⟨a29, n30, c31, K26, rfl, hS41, hl1, hl2, hs32⟩

theorem ok_laws_toEntryS (F : Nat) {w : World} {K : KMap} {a1 : Option Addr} {n2 c3 : Nat} {p0_a : List GEntry} {r : (List GEntry)} (hS : SH w K [] w K []) (hs4 : SliceAt tGEntry K a1 n2 c3 p0_a) (hm : M.laws_toEntryS F p0_a = some r) :
  Calls Tryz.prog 86 #[.slice a1 n2 c3] w fun e w' => ∃ (a_1 : Option Addr) (n_2 c_3 : Nat) (K' : KMap), e = .returned (.slice a_1 n_2 c_3) ∧ SH w K [] w' K' [tail (.slice a_1 n_2 c_3) 94 3] ∧ SliceAt tGEntry K' a_1 n_2 c_3 r := by
 rw [M.laws_toEntryS] at hm
 refine calls_in Tryz.func86 rfl Tryz.ntmps86 rfl ?_
 refine sr ?_
 refine wl_val wn rfl (rv_assign (v := .slice none 0 0) rfl) ?_
 refine nr ?_
 refine vm rfl rfl ?_
 refine wl_val wn rfl (rv_len (t := tGEntry) Tryz.underlying67 rfl hs4) ?_
 obtain ⟨x5, hx6, h7⟩ := ob hm
 refine wl_make (t := tGEntry) wn rfl Tryz.underlying28 tf94 rfl rfl rfl hx6 ⟨none, 0, 0, rfl, (by decide : ([] : Str).length ≤ maxLen), (by decide : ([] : Str).length ≤ maxLen), (SliceAt.nil _ _)⟩ hS ?_
 intro g8 cs9 w10 hmx13 hrow11 hS12
 obtain ⟨m14, hm15⟩ : ∃ m, m = x5.length := ⟨_, rfl⟩
 rw [← hm15] at hmx13
 rw [← hm15]
 refine va rfl rfl ?_
 refine nsr ?_
 refine wl_val wn rfl (rv_assign (v := .int .i64 0) rfl) ?_
 refine nq ?_
 obtain ⟨o16, h17, h18⟩ := ob h7
 refine wc_cutg (fun E' w' => ∃ (cs23 : List Value) (K19 : KMap), E' = [(3, .slice (some ⟨g8, 0, none⟩) m14 m14)] ∧ SH w K [] w' K19 [obj g8 cs23 94] ∧ KLe K K19 ∧ RowAt true tGEntry K19 cs23 o16 ∧ m14 = o16.length) ?_ ?_
 ·refine wc_block ?_
  obtain ⟨r27, h28, h29⟩ := ob h17
  refine wc_while' (fun (s26 : Int × (List GEntry)) E' w' => ∃ (cs35 : List Value) (K30 : KMap), E' = [(0, .slice a1 n2 c3), (3, .slice (some ⟨g8, 0, none⟩) m14 m14), (4, .int .i64 s26.1)] ∧ SH w K [] w' K30 [obj g8 cs35 94] ∧ KLe K K30 ∧ rng64 s26.1 ∧ RowAt true tGEntry K30 cs35 s26.2 ∧ m14 = s26.2.length) h28 ⟨cs9, K, rfl, hS12, (KLe.refl _), (by decide : rng64 0), hrow11, hm15⟩ ⟨rfl, rfl, rfl, trivial⟩ ?_
  rintro s26 _ w32 r38 h39 hx40 ⟨cs35, K30, rfl, hS33, hl31, hr34, hrow36, hm37⟩
  refine wc_seq ?_
  refine sr ?_
  refine vm rfl rfl ?_
  refine vm rfl rfl ?_
  refine wl_val wn rfl (rv_len (t := tGEntry) Tryz.underlying67 rfl (SliceAt.mono hl31 hs4)) ?_
  refine wl_val wn rfl (rv_lss rfl rfl) ?_
  refine nq ?_
  refine wc_cond rfl (fun hb41 => ?_) (fun hb41 => ?_)
  ·have h42 := cond_t hb41 h39
   refine wc_skip ?_
   refine qs ?_
   refine wc_block ?_
   refine wc_region ?_
   refine vm rfl rfl ?_
   refine vm rfl rfl ?_
   refine vm rfl rfl ?_
   refine vm rfl rfl ?_
   obtain ⟨x43, hx44, h45⟩ := ob h42
   refine wl_indexAddr (t := tGEntry) wn rfl Tryz.underlying67 tf176 rfl rfl (SliceAt.mono hl31 hs4) hx44 ?_
   intro b46 o47 u48 hu49 ha50
   obtain ⟨a53, n54, c55, rfl, hl51, hl52, hs56⟩ := hu49
   have ha57 : AtK _ b46 o47 [sv x43.Field, sv x43.Term, .slice a53 n54 c55] := ha50
   refine wl_val wn rfl (rv_loadS (cs := [sv x43.Field, sv x43.Term, .slice a53 n54 c55]) tf176 rfl hS33 ha57 rfl) ?_
   obtain ⟨r58, hx59, h60⟩ := ob h45
   refine wl_call wn rfl (rt_call (vs := [.agg #[sv x43.Field, sv x43.Term, .slice a53 n54 c55]]) co134 rfl) ((ok_laws_toEntry F) hS33.enter0 hl51 hl52 hs56 hx59) ?_
   rintro e70 w62 ⟨a66, n67, c68, K61, rfl, hS63, hl64, hl65, hs69⟩
   refine ⟨_, rfl, ?_⟩
   have hS71 : SH _ _ _ _ _ [_, _] := SH.call0 hS33 hS63
   obtain ⟨x72, hx73, h74⟩ := ob h60
   obtain ⟨u75, hu76, hk77⟩ := RowAt.at (RowAt.mono hS63.le hrow36) hx73
   obtain ⟨a81, n82, c83, rfl, hl79, hl80, hs84⟩ := hu76
   have hk78 : ∀ (j : Nat) (d : Value), [sv x72.Field, sv x72.Term, .slice a81 n82 c83][j]? = some d → cs35[s26.1.toNat * tGEntry.size + j]? = some d := hk77
   refine wl_val wn rfl (rv_indexRow (t := tGEntry) Tryz.underlying28 tf94 rfl rfl hm37 hx73) ?_
   have hS85 : SH _ _ _ _ _ [_, _] := SH.front (p := [_]) hS71
   refine wl_storeRow (t := tGEntry) (v := .agg #[sv r58.Field, sv r58.Term, .slice a66 n67 c68]) (e := r58) wn tf94 rfl rfl ⟨a66, n67, c68, rfl, hl64, hl65, hs69⟩ hS85 (RowAt.mono hS63.le hrow36) hx73 ?_
   intro cs86 w87 hrow88 hS89
   have hm90 := hm37.trans (List.length_set (i := s26.1.toNat) (a := r58)).symm
   refine nb ?_
   refine qe_seq ?_
   refine wc_region ?_
   refine vm rfl rfl ?_
   refine wl_val wn rfl (rv_add rfl rfl) ?_
   refine va rfl rfl ?_
   refine wl_nil ?_
   obtain rfl := oi h74
   have hS91 : SH _ _ _ _ _ [_] := SH.sublist hS89 (.cons_cons _ (.cons _ .slnil))
   exact qe_mid' ⟨_, rfl, cs86, K61, rfl, hS91, (hl31.trans hS63.le), (w64_rng _), hrow88, hm90⟩ ⟨rfl, rfl, rfl, trivial⟩
  ·have h42 := cond_f hb41 h39
   refine wc_exit ?_
   refine qe_then_exit ?_
   refine qe_then_exit ?_
   obtain rfl := oi h42
   have e92 := hx40 _ rfl
   subst e92
   refine qe_block_eq ?_
   obtain rfl := oi h29
   exact qe_mid' ⟨cs35, K30, rfl, hS33, hl31, hrow36, hm37⟩ ⟨rfl, trivial⟩
 ·rintro _ w21 ⟨cs23, K19, rfl, hS22, hl20, hrow24, hm25⟩
  refine qr ?_
  refine vm rfl rfl ?_
  refine va rfl rfl ?_
  refine nq ?_
  refine wc_ret ?_
  obtain ⟨K93, hl94, hs95, hS96⟩ := SH.freeze hS22 hrow24 (row_max hm25 hmx13)
  rw [← hm25] at hs95 hS96
  obtain rfl := oi h18
  exact qe_ret (vs := [_]) Tryz.results86 ⟨rfl, trivial⟩ ⟨(some ⟨g8, 0, none⟩), m14, m14, K93, rfl, hS96, hs95⟩

theorem ok_laws_toSeg (F : Nat) {w : World} {K : KMap} {a1 : Option Addr} {n2 c3 : Nat} {a5 : Option Addr} {n6 c7 : Nat} {p0_a : GSeg} {r : GSeg} (hS : SH w K [] w K []) (hs4 : SliceAt tGDoc K a1 n2 c3 p0_a.Docs) (hs8 : SliceAt tGEntry K a5 n6 c7 p0_a.Entries) (hm : M.laws_toSeg F p0_a = some r) :
  Calls Tryz.prog 32 #[.agg #[.slice a1 n2 c3, .slice a5 n6 c7]] w fun e w' => ∃ (a_1 : Option Addr) (n_2 c_3 : Nat) (a_5 : Option Addr) (n_6 c_7 : Nat) (K' : KMap), e = .returned (.agg #[.slice a_1 n_2 c_3, .slice a_5 n_6 c_7]) ∧ SH w K [] w' K' [tail (.slice a_1 n_2 c_3) 44 3, tail (.slice a_5 n_6 c_7) 94 3] ∧ SliceAt tGDoc K' a_1 n_2 c_3 r.Docs ∧ SliceAt tGEntry K' a_5 n_6 c_7 r.Entries := by
 rw [M.laws_toSeg] at hm
 refine calls_in Tryz.func32 rfl Tryz.ntmps32 rfl ?_
 refine sr ?_
 refine wl_box wn rfl rfl hS ?_
 intro g9 w10 hS11
 have hS12 : SH _ _ _ _ _ [obj g9 [.slice a1 n2 c3, .slice a5 n6 c7] 69] := hS11
 refine wl_alloc wn rfl tf30 hS12 ?_
 intro g13 w14 hS15
 have hS16 : SH _ _ _ _ _ [obj g13 [.slice none 0 0, .slice none 0 0] 30, _] := hS15
 refine nr ?_
 refine wl_alloc wn rfl tf30 hS16 ?_
 intro g17 w18 hS19
 have hS20 : SH _ _ _ _ _ [obj g17 [.slice none 0 0, .slice none 0 0] 30, _, _] := hS19
 refine nr ?_
 refine wl_val wn rfl (rv_fieldAddr ff69_0 rfl) ?_
 refine wl_val wn rfl (rv_loadm1 tf54 rfl (.tail _ (.tail _ (.head _))) hS20 rfl) ?_
 obtain ⟨r21, hx22, h23⟩ := ob hm
 refine wl_call wn rfl (rt_call (vs := [.slice a1 n2 c3]) co22 rfl) ((ok_laws_toDocS F) hS20.enter0 hs4 hx22) ?_
 rintro e31 w25 ⟨a27, n28, c29, K24, rfl, hS26, hs30⟩
 refine ⟨_, rfl, ?_⟩
 have hS32 : SH _ _ _ _ _ [_, _, _, _] := SH.call0 hS20 hS26
 refine wl_val wn rfl (rv_fieldAddr ff30_0 rfl) ?_
 have hS33 : SH _ _ _ _ _ [_, _, _, _] := SH.front (p := [_]) hS32
 refine wl_store (cs' := [.slice a27 n28 c29, .slice none 0 0]) (v := .slice a27 n28 c29) wn tf27 rfl rfl rfl (by simp [Value.cells, Value.oneCell']) hS33 rfl rfl ?_
 intro w34 hS35
 refine nr ?_
 refine wl_val wn rfl (rv_fieldAddr ff69_1 rfl) ?_
 refine wl_val wn rfl (rv_loadm1 tf67 rfl (.tail _ (.tail _ (.tail _ (.head _)))) hS35 rfl) ?_
 obtain ⟨r36, hx37, h38⟩ := ob h23
 refine wl_call wn rfl (rt_call (vs := [.slice a5 n6 c7]) co86 rfl) ((ok_laws_toEntryS F) hS35.enter0 (SliceAt.mono hS26.le hs8) hx37) ?_
 rintro e46 w40 ⟨a42, n43, c44, K39, rfl, hS41, hs45⟩
 refine ⟨_, rfl, ?_⟩
 have hS47 : SH _ _ _ _ _ [_, _, _, _, _] := SH.call0 hS35 hS41
 refine wl_val wn rfl (rv_fieldAddr ff30_1 rfl) ?_
 have hS48 : SH _ _ _ _ _ [_, _, _, _, _] := SH.front (p := [_]) hS47
 refine wl_store (cs' := [.slice a27 n28 c29, .slice a42 n43 c44]) (v := .slice a42 n43 c44) wn tf28 rfl rfl rfl (by simp [Value.cells, Value.oneCell']) hS48 rfl rfl ?_
 intro w49 hS50
 refine nr ?_
 refine wl_val wn rfl (rv_loadmS (ds := [.slice a27 n28 c29, .slice a42 n43 c44]) tf30 rfl (.head _) hS50 rfl rfl) ?_
 have hS51 : SH _ _ _ _ _ [_, _, _, _, _] := SH.front (p := [_, _, _]) hS50
 refine wl_store (cs' := [.slice a27 n28 c29, .slice a42 n43 c44]) (v := .agg #[.slice a27 n28 c29, .slice a42 n43 c44]) wn tf30 rfl rfl rfl (by simp [Value.cells, Value.oneCell']) hS51 rfl rfl ?_
 intro w52 hS53
 refine nq ?_
 refine wc_ret ?_
 obtain rfl := oi h38
 have hS54 : SH _ _ _ _ _ [_, _, _, _, _] := SH.front (p := [_, _]) hS53
 have hS55 : SH _ _ _ _ _ [_, _, _, _, _] := SH.front (p := [_, _, _]) hS54
 have hS56 : SH _ _ _ _ _ [_, _] := SH.sublist hS55 (.cons_cons _ (.cons_cons _ (.cons _ (.cons _ (.cons _ .slnil)))))
 exact qe_ret (vs := [_]) Tryz.results32 ⟨⟨_, _, rfl, run_loadVar_at tf30 (cs := [.slice a27 n28 c29, .slice a42 n43 c44]) (fun j c e => by rw [Nat.zero_add, hS53.mem_obj (.head _)]; exact e) (.inl ⟨rfl, rfl, rfl⟩)⟩, trivial⟩ ⟨a27, n28, c29, a42, n43, c44, K39, rfl, hS56, (SliceAt.mono hS41.le hs30), hs45⟩
end Go.Proofs.YtdcmmhjhffcnhaaGreat
