/-
 Walks of the functions. Printed by gen.py.
-/
import Derived.Test.YtoeajphlomankaaGreatDoorWalkA1
set_option linter.unusedVariables false
set_option maxRecDepth 100000
namespace Go.Proofs.YtoeajphlomankaaGreatDoor
open Go Go.Fk Go.RowKit Tryz

theorem ok_impl_within (F : Nat) {w : World} {K : KMap} {p0_n : Int} {p1_low : Int} {p2_high : Int} {r : Bool} (hS : SH w K [] w K []) (c : rng64 p0_n) (d : rng64 p1_low) (f : rng64 p2_high) (hm : M.impl_within F p0_n p1_low p2_high = some r) :
  Calls Tryz.prog 55 #[.int .i64 p0_n, .int .i64 p1_low, .int .i64 p2_high] w fun e w' => ∃ K', e = .returned (.bool r) ∧ SH w K [] w' K' [] := by
 rw [M.impl_within] at hm
 refine calls_in func55 rfl ntmps55 rfl (sr (lv (rv_assign (v := .bool false) rfl) (nr (mv rfl (mv rfl (lv (rv_geq rfl rfl) (mv rfl ?_)))))))
 rcases bool_tf (decide (p1_low ≤ p0_n)) with a | a
 ·have b := cond_t a hm
  refine lg a (rv_move rfl) (lg a (rv_move rfl) (lg a (rv_leq rfl rfl) (lv (rv_pick_t rfl a rfl) (av rfl (nq (wc_ret ?_))))))
  obtain rfl := oi b
  exact er results55 ⟨rfl, trivial⟩ ⟨K, rfl, hS⟩
 have b := cond_f a hm
 refine lu a (lu a (lu a (lv (rv_pick_f (v := .bool false) rfl a rfl) (av rfl (nq (wc_ret ?_))))))
 obtain rfl := oi b
 exact er results55 ⟨rfl, trivial⟩ ⟨K, rfl, hS⟩

theorem ok_impl_wordByte (F : Nat) {w : World} {K : KMap} {p0_b : UInt8} {r : Bool} (hS : SH w K [] w K []) (hm : M.impl_wordByte F p0_b = some r) :
  Calls Tryz.prog 103 #[iv8 p0_b] w fun e w' => ∃ K', e = .returned (.bool r) ∧ SH w K [] w' K' [] := by
 rw [M.impl_wordByte] at hm
 refine calls_in func103 rfl ntmps103 rfl (sr (lv (rv_assign (v := .bool false) rfl) (nr (mv rfl (lv (rv_bge (b := (97 : UInt8)) rfl rfl) (mv rfl ?_))))))
 rcases bool_tf (decide ((97 : UInt8) ≤ p0_b)) with c | c
 ·have i := cond_t c hm
  refine lg c (rv_move rfl) (lg c (rv_ble (b := (122 : UInt8)) rfl rfl) (lv (rv_pick_t rfl c rfl) (mv rfl ?_)))
  rcases bool_tf (decide (p0_b ≤ (122 : UInt8))) with a | a
  ·have k := cond_t a i
   refine lu a (lu a (lu a (wl_un (uu rfl rfl) rfl (wl_un (uu rfl rfl) rfl (lu a (lv (rv_pick_t (v := .bool true) rfl a rfl) (av rfl (nq (wc_ret ?_)))))))))
   obtain rfl := oi k
   exact er results103 ⟨rfl, trivial⟩ ⟨K, rfl, hS⟩
  have k := cond_f a i
  refine lg a (rv_move rfl) (lg a (rv_bge (b := (48 : UInt8)) rfl rfl) (lg a (rv_move rfl) ?_))
  rcases bool_tf (decide ((48 : UInt8) ≤ p0_b)) with d | d
  ·have l := cond_t d k
   refine lg d (rv_move rfl) (lg d (rv_ble (b := (57 : UInt8)) rfl rfl) (lg a (rv_pick_t rfl d rfl) (lv (rv_pick_f rfl a rfl) (av rfl (nq (wc_ret ?_))))))
   obtain rfl := oi l
   exact er results103 ⟨rfl, trivial⟩ ⟨K, rfl, hS⟩
  have l := cond_f d k
  refine lu d (lu d (lg a (rv_pick_f (v := .bool false) rfl d rfl) (lv (rv_pick_f rfl a rfl) (av rfl (nq (wc_ret ?_))))))
  obtain rfl := oi l
  exact er results103 ⟨rfl, trivial⟩ ⟨K, rfl, hS⟩
 have i := cond_f c hm
 refine lu c (lu c (lv (rv_pick_f (v := .bool false) rfl c rfl) (mv rfl (lg rfl (rv_move rfl) (lg rfl (rv_bge (b := (48 : UInt8)) rfl rfl) (lg rfl (rv_move rfl) ?_))))))
 rcases bool_tf (decide ((48 : UInt8) ≤ p0_b)) with f | f
 ·have m := cond_t f i
  refine lg f (rv_move rfl) (lg f (rv_ble (b := (57 : UInt8)) rfl rfl) (lg rfl (rv_pick_t rfl f rfl) (lv (rv_pick_f rfl rfl rfl) (av rfl (nq (wc_ret ?_))))))
  obtain rfl := oi m
  exact er results103 ⟨rfl, trivial⟩ ⟨K, rfl, hS⟩
 have m := cond_f f i
 refine lu f (lu f (lg rfl (rv_pick_f (v := .bool false) rfl f rfl) (lv (rv_pick_f rfl rfl rfl) (av rfl (nq (wc_ret ?_))))))
 obtain rfl := oi m
 exact er results103 ⟨rfl, trivial⟩ ⟨K, rfl, hS⟩

theorem ok_impl_WordOk (F : Nat) {w : World} {K : KMap} {p0_s : Str} {r : Bool} (hS : SH w K [] w K []) (k : p0_s.length ≤ maxLen) (hm : M.impl_WordOk F p0_s = some r) :
  Calls Tryz.prog 56 #[sv p0_s] w fun e w' => ∃ K', e = .returned (.bool r) ∧ SH w K [] w' K' [] := by
 rw [M.impl_WordOk] at hm
 refine calls_in func56 rfl ntmps56 rfl (sr (lv (rv_assign (v := .bool false) rfl) (nsr (mv rfl (lv (rv_slen underlying9 rfl) (lv (rv_move (v := .int .i64 0) rfl) (nq ?_)))))))
 obtain ⟨B, C, b⟩ := ob hm
 refine wc_cutg (fun E' w' => ∃ l d, B = .inl l ∧ E' = [(0, sv p0_s)] ∧ SH w K [] w' d [] ∧ KLe K d) ?_ ?_
 ·refine wc_block ?_
  obtain ⟨ac, D, m⟩ := ob C
  refine qf (fun (o : Nat) (q : Unit) E' w' => ∃ a, E' = [(0, sv p0_s), (5, .int .i64 (p0_s.length : Int)), (6, .int .i64 ((o : Nat) : Int))] ∧ SH w K [] w' a [] ∧ KLe K a) D ⟨K, rfl, hS, (KLe.refl _)⟩ ?_ ?_
  ·rintro o q _ G ad hi20 H I ⟨a, rfl, c, f⟩
   refine sr (lv (rv_lss rfl rfl) (ns (wc_cond_t rfl (decide_eq_true (by omega)) (wc_skip (qe_seq (wc_seq (wc_block (sr (mv rfl (av rfl (nr (mv rfl ?_))))))))))))
   refine mv rfl ?_
   obtain ⟨J, O, R⟩ := ob H
   refine lv (rv_sidx underlying9 rfl rfl O) ?_
   obtain ⟨ae, S, T⟩ := ob R
   refine lc (vs := [iv8 J]) co103 ((ok_impl_wordByte F) c.enter0  S) ?_
   rintro af ag ⟨s, rfl, x⟩
   refine ⟨_, rfl, ?_⟩
   have y := (c.c0 x).t0
   refine lv (rv_not rfl) (nq (wcc T rfl (fun U i => ?_) (fun U i => ?_)))
   ·refine sr (lv (rv_assign (v := .bool false) rfl) (nq (wc_ret (qe_block_ret (qe_then_ret (qe_then_ret ?_))))))
    obtain rfl := oi i
    have V := I _ rfl
    subst V
    refine qe_block_ret (qe_then_ret ?_)
    obtain rfl := oi m
    refine qe_then_ret ?_
    obtain rfl := oi b
    exact er results56 ⟨rfl, trivial⟩ ⟨s, rfl, y⟩
   refine wc_skip (qe_block (qg (lv (rv_add_to rfl rfl (w64_succ hi20 k)) (mv rfl (wl_nil ?_)))))
   obtain rfl := oi i
   exact qd ⟨_, rfl, s, rfl, y, (f.trans x.le)⟩
  rintro q _ G W ⟨a, rfl, c, f⟩
  subst W
  refine sr (lv (rv_lss rfl rfl) (ns (wc_cond_f rfl (decide_eq_false (by omega)) (wc_exit (qe_then_exit (qe_then_exit (qe_block_eq ?_)))))))
  obtain rfl := oi m
  exact qd ⟨_, a, rfl, rfl, c, f⟩
 rintro _ w8 ⟨l, d, rfl, rfl, A, ai⟩
 have b := elim_l b
 refine qr (mv rfl (lv (rv_slen underlying9 rfl) ?_))
 obtain ⟨aj, X, Y⟩ := ob b
 refine lc (vs := [.int .i64 (p0_s.length : Int), .int .i64 1, .int .i64 12]) co55 ((ok_impl_within F) A.enter0 (rng_nat k) (by decide : rng64 1) (by decide : rng64 12) X) ?_
 rintro ak al ⟨Z, rfl, aa⟩
 refine ⟨_, rfl, ?_⟩
 have ab := (A.c0 aa).t0
 refine av rfl (nq (wc_ret ?_))
 obtain rfl := oi Y
 exact er results56 ⟨rfl, trivial⟩ ⟨Z, rfl, ab⟩

set_option maxHeartbeats 2000000 in
theorem ok_impl_wordsAscend (F : Nat) {w : World} {K : KMap} {c : Option Addr} {d f : Nat} {p0_list : List Str} {r : Bool} (hS : SH w K [] w K []) (q : SliceAt tStr K c d f p0_list) (hm : M.impl_wordsAscend F p0_list = some r) :
  Calls Tryz.prog 54 #[.slice c d f] w fun e w' => ∃ K', e = .returned (.bool r) ∧ SH w K [] w' K' [] := by
 rw [M.impl_wordsAscend] at hm
 refine calls_in func54 rfl ntmps54 rfl (sr (lv (rv_assign (v := .bool false) rfl) (nsr (mv rfl (lv (rv_len (t := tStr) underlying23 rfl q) (lv (rv_move (v := .int .i64 0) rfl) (nq ?_)))))))
 obtain ⟨T, U, s⟩ := ob hm
 refine wc_cutg (fun E' w' => ∃ H x, T = .inl H ∧ E' = [] ∧ SH w K [] w' x [] ∧ KLe K x) ?_ ?_
 ·refine wc_block ?_
  obtain ⟨aC, V, I⟩ := ob U
  refine qf (fun (y : Nat) (J : Unit) E' w' => ∃ i, E' = [(0, .slice c d f), (5, .slice c d f), (6, .int .i64 (p0_list.length : Int)), (7, .int .i64 ((y : Nat) : Int))] ∧ SH w K [] w' i [] ∧ KLe K i) V ⟨K, rfl, hS, (KLe.refl _)⟩ ?_ ?_
  ·rintro y J _ W aD hi23 X Y ⟨i, rfl, k, l⟩
   refine sr (lv (rv_lss rfl rfl) (ns (wc_cond_t rfl (decide_eq_true (by omega)) (wc_skip (qe_seq (wc_seq (wc_block (sr (mv rfl ?_)))))))))
   obtain ⟨O, Z, aa⟩ := ob X
   refine li underlying23 tf9 (q.mono l) Z fun ab ac aE ad ae => ?_
   obtain ⟨rfl, af⟩ := ad
   have ag : AtK _ ab ac [sv O] := ae
   refine lv (rv_load1 tf9 rfl k (ag 0 _ rfl)) (av rfl (av rfl (ns ?_)))
   obtain ⟨ah, ai, aj⟩ := ob aa
   refine wc_cutg (fun E' w' => ∃ m, E' = [(0, .slice c d f), (5, .slice c d f), (6, .int .i64 (p0_list.length : Int)), (7, .int .i64 ((y : Nat) : Int)), (27, .bool ah)] ∧ SH w K [] w' m [] ∧ KLe i m) ?_ ?_
   ·refine wc_region (mv rfl ?_)
    obtain ⟨ak, al, R⟩ := ob ai
    refine lc (vs := [sv O]) co56 ((ok_impl_WordOk F) k.enter0 af al) ?_
    rintro aF aG ⟨C, rfl, o⟩
    refine ⟨_, rfl, ?_⟩
    have A := (k.c0 o).t0
    refine lv (rv_not rfl) (mv rfl ?_)
    rcases bool_tf ((!ak)) with b | b
    ·have B := cond_t b R
     refine lu b (lu b (lu b (wl_un (uu rfl rfl) rfl (wl_un (uu rfl rfl) rfl (wl_un (uu rfl rfl) rfl (wl_un (uu rfl rfl) rfl (wl_un (uu rfl rfl) rfl (wl_un (uu rfl rfl) rfl (wl_un (uu rfl rfl) rfl ?_)))))))))
     refine lu b (lv (rv_pick_t (v := .bool true) rfl b rfl) (wl_nil ?_))
     obtain rfl := oi B
     exact qd ⟨C, rfl, A, o.le⟩
    have B := cond_f b R
    refine lg b (rv_move rfl) (lg b (rv_gtr rfl rfl) (lg b (rv_move rfl) ?_))
    rcases bool_tf (decide ((0 : Int) < ((y : Nat) : Int))) with a | a
    ·have D := cond_t a B
     refine lg a (rv_move rfl) (lg a (rv_move rfl) (lg a (rv_sub rfl rfl) ?_))
     obtain ⟨am, an, ao⟩ := ob D
     refine wl_indexAddr (t := tStr) (wg rfl rfl a) rfl underlying23 tf9 rfl rfl (q.mono (l.trans o.le)) an fun ap aq aH ar au => ?_
     obtain ⟨rfl, aI⟩ := ar
     have aw : AtK _ ap aq [sv am] := au
     refine lg a (rv_load1 tf9 rfl A (aw 0 _ rfl)) (lg a (rv_move rfl) (lg a (rv_sgeq rfl rfl) (lg b (rv_pick_t rfl a rfl) (lv (rv_pick_f rfl b rfl) (wl_nil ?_)))))
     obtain rfl := oi ao
     exact qd ⟨C, rfl, A, o.le⟩
    have D := cond_f a B
    refine lu a (lu a (lu a (lu a (lu a (lu a (lu a (lg b (rv_pick_f (v := .bool false) rfl a rfl) (lv (rv_pick_f rfl b rfl) (wl_nil ?_)))))))))
    obtain rfl := oi D
    exact qd ⟨C, rfl, A, o.le⟩
   rintro _ aJ ⟨m, rfl, S, ax⟩
   refine qe_seq (wcc aj rfl (fun ay G => ?_) (fun ay G => ?_))
   ·refine sr (lv (rv_assign (v := .bool false) rfl) (nq (wc_ret (qe_block_ret (qe_then_ret (qe_then_ret ?_))))))
    obtain rfl := oi G
    have az := Y _ rfl
    subst az
    refine qe_block_ret (qe_then_ret ?_)
    obtain rfl := oi I
    refine qe_then_ret ?_
    obtain rfl := oi s
    exact er results54 ⟨rfl, trivial⟩ ⟨m, rfl, S⟩
   refine wc_skip (qe_block (qg (lv (rv_add_to rfl rfl (w64_succ hi23 (SliceAt.max q))) (mv rfl (wl_nil ?_)))))
   obtain rfl := oi G
   exact qd ⟨_, rfl, m, rfl, S, (l.trans ax)⟩
  rintro J _ W aA ⟨i, rfl, k, l⟩
  subst aA
  refine sr (lv (rv_lss rfl rfl) (ns (wc_cond_f rfl (decide_eq_false (by omega)) (wc_exit (qe_then_exit (qe_then_exit (qe_block_eq ?_)))))))
  obtain rfl := oi I
  exact qe_mid' ⟨_, i, rfl, rfl, k, l⟩ trivial
 rintro _ aK ⟨H, x, rfl, rfl, aB, aL⟩
 have s := elim_l s
 refine qr (lv (rv_assign (v := .bool true) rfl) (nq (wc_ret ?_)))
 obtain rfl := oi s
 exact er results54 ⟨rfl, trivial⟩ ⟨x, rfl, aB⟩

theorem ok_stringslite_HasSuffix (F : Nat) {w : World} {K : KMap} {p0_s : Str} {p1_suffix : Str} {r : Bool} (hS : SH w K [] w K []) (f : p0_s.length ≤ maxLen) (i : p1_suffix.length ≤ maxLen) (hm : M.stringslite_HasSuffix F p0_s p1_suffix = some r) :
  Calls Tryz.prog 153 #[sv p0_s, sv p1_suffix] w fun e w' => ∃ K', e = .returned (.bool r) ∧ SH w K [] w' K' [] := by
 rw [M.stringslite_HasSuffix] at hm
 refine calls_in func153 rfl ntmps153 rfl (sr (lv (rv_assign (v := .bool false) rfl) (nr (mv rfl (lv (rv_slen underlying9 rfl) (mv rfl (lv (rv_slen underlying9 rfl) (lv (rv_geq rfl rfl) (mv rfl ?_)))))))))
 rcases bool_tf (decide ((p1_suffix.length : Int) ≤ (p0_s.length : Int))) with a | a
 ·have b := cond_t a hm
  refine lg a (rv_move rfl) (lg a (rv_move rfl) (lg a (rv_slen underlying9 rfl) (lg a (rv_move rfl) (lg a (rv_slen underlying9 rfl) (lg a (rv_sub rfl rfl) ?_)))))
  obtain ⟨k, c, d⟩ := ob b
  refine lg a (rv_ssl_l underlying9 rfl rfl c) (lg a (rv_move rfl) (lg a (rv_seql rfl rfl) (lv (rv_pick_t rfl a rfl) (av rfl (nq (wc_ret ?_))))))
  obtain rfl := oi d
  exact er results153 ⟨rfl, trivial⟩ ⟨K, rfl, hS⟩
 have b := cond_f a hm
 refine lu a (lu a (lu a (lu a (lu a (lu a (lu a (lu a (lu a (lv (rv_pick_f (v := .bool false) rfl a rfl) ?_)))))))))
 refine av rfl (nq (wc_ret ?_))
 obtain rfl := oi b
 exact er results153 ⟨rfl, trivial⟩ ⟨K, rfl, hS⟩

theorem ok_strings_HasSuffix (F : Nat) {w : World} {K : KMap} {p0_s : Str} {p1_suffix : Str} {r : Bool} (hS : SH w K [] w K []) (a : p0_s.length ≤ maxLen) (b : p1_suffix.length ≤ maxLen) (hm : M.strings_HasSuffix F p0_s p1_suffix = some r) :
  Calls Tryz.prog 104 #[sv p0_s, sv p1_suffix] w fun e w' => ∃ K', e = .returned (.bool r) ∧ SH w K [] w' K' [] := by
 rw [M.strings_HasSuffix] at hm
 refine calls_in func104 rfl ntmps104 rfl (sr (lv (rv_assign (v := .bool false) rfl) (nr (mv rfl (mv rfl ?_)))))
 obtain ⟨l, c, d⟩ := ob hm
 refine lc (vs := [sv p0_s, sv p1_suffix]) co153 ((ok_stringslite_HasSuffix F) hS.enter0 a b c) ?_
 rintro m o ⟨f, rfl, i⟩
 refine ⟨_, rfl, ?_⟩
 have k := (hS.c0 i).t0
 refine av rfl (nq (wc_ret ?_))
 obtain rfl := oi d
 exact er results104 ⟨rfl, trivial⟩ ⟨f, rfl, k⟩

set_option maxHeartbeats 2000000 in
theorem ok_impl_StemOf (F : Nat) {w : World} {K : KMap} {p0_s : Str} {r : Str} (hS : SH w K [] w K []) (O : p0_s.length ≤ maxLen) (hm : M.impl_StemOf F p0_s = some r) :
  Calls Tryz.prog 57 #[sv p0_s] w fun e w' => ∃ K', e = .returned (sv r) ∧ SH w K [] w' K' [] ∧ r.length ≤ maxLen := by
 rw [M.impl_StemOf] at hm
 refine calls_in func57 rfl ntmps57 rfl (sr (lv (rv_assign (v := sv []) rfl) (nsr (mv rfl ?_))))
 obtain ⟨r2, ae, h4⟩ := ob hm
 refine lc (vs := [sv p0_s]) co56 ((ok_impl_WordOk F) hS.enter0 O ae) ?_
 rintro e8 w6 ⟨l, rfl, ag⟩
 refine ⟨_, rfl, ?_⟩
 have R := (hS.c0 ag).t0
 refine lv (rv_not rfl) (nq (wcc h4 rfl (fun ah x => ?_) (fun ah x => ?_)))
 ·refine sr (lv (rv_assign (v := sv []) rfl) (nq (rr ?_)))
  obtain rfl := oi x
  exact er results57 ⟨rfl, trivial⟩ ⟨l, rfl, R, (by decide : ([] : Str).length ≤ maxLen)⟩
 refine wc_skip (qs (sr (lv (rv_assign (v := .bool true) rfl) (nq ?_))))
 obtain ⟨S, ai, aj⟩ := ob x
 refine wc_cutg (fun E' w' => ∃ m, E' = [(0, sv S)] ∧ SH w K [] w' m [] ∧ KLe l m ∧ S.length ≤ maxLen) ?_ ?_
 ·refine wc_block ?_
  obtain ⟨a1, ak, al⟩ := ob ai
  refine qw (fun (o : Str × Bool) E' w' => ∃ q, E' = [(0, sv o.1), (3, .bool o.2)] ∧ SH w K [] w' q [] ∧ KLe l q ∧ o.1.length ≤ maxLen) ak ⟨l, rfl, R, (KLe.refl _), O⟩ ?_
  rintro o _ a2 a3 am an ⟨q, rfl, T, U, V⟩
  refine wc_seq (sr (mv rfl (nq (wcc am rfl (fun ao y => ?_) (fun ao y => ?_)))))
  ·refine wc_skip (qe_seq (wc_block (sr (lv (rv_assign (v := .bool false) rfl) (nr (wl_buildSlice (t := tStr) (n := 5) (pv := [(0, sv [105, 110, 103]), (1, sv [101, 100]), (2, sv [101, 115]), (3, sv [108, 121]), (4, sv [115])]) (cs := [sv [105, 110, 103], sv [101, 100], sv [101, 115], sv [108, 121], sv [115]]) (xs := [([105, 110, 103] : Str), ([101, 100] : Str), ([101, 115] : Str), ([108, 121] : Str), ([115] : Str)]) wn rfl underlying23 tf9 rfl rfl rfl (by kernel_rfl) rfl rfl (lit_cons (u := sv [105, 110, 103]) (z := ([105, 110, 103] : Str)) ⟨rfl, (by decide : ([105, 110, 103] : Str).length ≤ maxLen)⟩ (lit_cons (u := sv [101, 100]) (z := ([101, 100] : Str)) ⟨rfl, (by decide : ([101, 100] : Str).length ≤ maxLen)⟩ (lit_cons (u := sv [101, 115]) (z := ([101, 115] : Str)) ⟨rfl, (by decide : ([101, 115] : Str).length ≤ maxLen)⟩ (lit_cons (u := sv [108, 121]) (z := ([108, 121] : Str)) ⟨rfl, (by decide : ([108, 121] : Str).length ≤ maxLen)⟩ (lit_cons (u := sv [115]) (z := ([115] : Str)) ⟨rfl, (by decide : ([115] : Str).length ≤ maxLen)⟩ lit_nil))))) T fun W a4 A ap B aq => (lv (rv_len (t := tStr) underlying23 rfl B) (lv (rv_move (v := .int .i64 0) rfl) (nq ?_)))))))))
   obtain ⟨C, ar, au⟩ := ob y
   refine wc_cutg (fun E' w' => ∃ s, E' = [(0, sv C.1), (3, .bool C.2)] ∧ SH w K [] w' s [] ∧ KLe A s ∧ C.1.length ≤ maxLen) ?_ ?_
   ·refine wc_block ?_
    obtain ⟨a5, aw, X⟩ := ob ar
    have ax := aq.sb (sd sz)
    refine qf (fun (D : Nat) (b : Str × Bool) E' w' => ∃ c, E' = [(0, sv b.1), (3, .bool b.2), (10, .slice W 5 5), (11, .int .i64 (([([105, 110, 103] : Str), ([101, 100] : Str), ([101, 115] : Str), ([108, 121] : Str), ([115] : Str)] : List Str).length : Int)), (12, .int .i64 ((D : Nat) : Int))] ∧ SH w K [] w' c [] ∧ KLe A c ∧ b.1.length ≤ maxLen) aw ⟨A, rfl, ax, (KLe.refl _), V⟩ ?_ ?_
    ·rintro D b _ ay a6 hi60 az aA ⟨c, rfl, d, f, i⟩
     refine sr (lv (rv_lss rfl rfl) (ns (wc_cond_t rfl (decide_eq_true (by omega)) (wc_skip (qe_seq (wc_seq (wc_block (sr ?_))))))))
     obtain ⟨G, aB, aC⟩ := ob az
     refine li underlying23 tf9 (B.mono f) aB fun aD aE a7 aF aG => ?_
     obtain ⟨rfl, aH⟩ := aF
     have aI : AtK _ aD aE [sv G] := aG
     refine lv (rv_load1 tf9 rfl d (aI 0 _ rfl)) (av rfl (ns ?_))
     obtain ⟨aJ, aK, aL⟩ := ob aC
     refine wc_cutg (fun E' w' => ∃ k, E' = [(0, sv b.1), (3, .bool b.2), (5, sv G), (10, .slice W 5 5), (11, .int .i64 (([([105, 110, 103] : Str), ([101, 100] : Str), ([101, 115] : Str), ([108, 121] : Str), ([115] : Str)] : List Str).length : Int)), (12, .int .i64 ((D : Nat) : Int)), (26, .bool aJ)] ∧ SH w K [] w' k [] ∧ KLe c k) ?_ ?_
     ·refine wc_region (mv rfl (mv rfl ?_))
      obtain ⟨aM, aN, Y⟩ := ob aK
      refine lc (vs := [sv b.1, sv G]) co104 ((ok_strings_HasSuffix F) d.enter0 i aH aN) ?_
      rintro a8 a9 ⟨Z, rfl, H⟩
      refine ⟨_, rfl, ?_⟩
      have aa := (d.c0 H).t0
      refine mv rfl ?_
      rcases bool_tf (aM) with a | a
      ·have I := cond_t a Y
       refine lg a (rv_move rfl) (lg a (rv_slen underlying9 rfl) (lg a (rv_move rfl) (lg a (rv_slen underlying9 rfl) (lg a (rv_sub rfl rfl) (lg a (rv_geq rfl rfl) (lv (rv_pick_t rfl a rfl) (wl_nil ?_)))))))
       obtain rfl := oi I
       exact qd ⟨Z, rfl, aa, H.le⟩
      have I := cond_f a Y
      refine lu a (lu a (lu a (lu a (lu a (lu a (lv (rv_pick_f (v := .bool false) rfl a rfl) (wl_nil ?_)))))))
      obtain rfl := oi I
      exact qd ⟨Z, rfl, aa, H.le⟩
     rintro _ ba ⟨k, rfl, ab, ac⟩
     refine qe_seq (wcc aL rfl (fun aO J => ?_) (fun aO J => ?_))
     ·refine sr (mv rfl (mv rfl (lv (rv_slen underlying9 rfl) (mv rfl (lv (rv_slen underlying9 rfl) (lv (rv_sub rfl rfl) ?_))))))
      obtain ⟨bb, ad, aP⟩ := ob J
      refine lv (rv_ssl_h underlying9 rfl rfl ad) (av rfl (nr (lv (rv_assign (v := .bool true) rfl) (nq (wc_exit (qe_block_ne rfl (qe_then_exit (qe_then_exit ?_))))))))
      obtain rfl := oi aP
      have aQ := aA _ rfl
      subst aQ
      refine qe_block_eq ?_
      obtain rfl := oi X
      exact qd ⟨k, rfl, ab, (f.trans ac), (len_sub i ad)⟩
     refine wc_skip (qe_block (qg (lv (rv_add_to rfl rfl (w64_succ hi60 (SliceAt.max B))) (mv rfl (wl_nil ?_)))))
     obtain rfl := oi J
     exact qd ⟨_, rfl, k, rfl, ab, (f.trans ac), i⟩
    rintro b _ ay aR ⟨c, rfl, d, f, i⟩
    subst aR
    refine sr (lv (rv_lss rfl rfl) (ns (wc_cond_f rfl (decide_eq_false (by omega)) (wc_exit (qe_then_exit (qe_then_exit (qe_block_eq ?_)))))))
    obtain rfl := oi X
    exact qd ⟨c, rfl, d, f, i⟩
   rintro _ bc ⟨s, rfl, aS, aT, aU⟩
   refine qe_block ?_
   obtain rfl := oi au
   exact qd ⟨_, rfl, s, rfl, aS, ((U.trans ap).trans aT), aU⟩
  refine wc_exit (qe_then_exit (qe_then_exit ?_))
  obtain rfl := oi y
  have aV := an _ rfl
  subst aV
  refine qe_block_eq ?_
  obtain rfl := oi al
  exact qd ⟨q, rfl, T, U, V⟩
 rintro _ bd ⟨m, rfl, aW, be, aX⟩
 refine qr (mv rfl (av rfl (nq (wc_ret ?_))))
 obtain rfl := oi aj
 exact er results57 ⟨rfl, trivial⟩ ⟨m, rfl, aW, aX⟩

theorem ok_slices_Index_string (F : Nat) {w : World} {K : KMap} {k : Option Addr} {l m : Nat} {p0_s : List Str} {p1_v : Str} {r : Int} (hS : SH w K [] w K []) (c : SliceAt tStr K k l m p0_s) (aa : p1_v.length ≤ maxLen) (hm : M.slices_Index_string F p0_s p1_v = some r) :
  Calls Tryz.prog 105 #[.slice k l m, sv p1_v] w fun e w' => ∃ K', e = .returned (.int .i64 r) ∧ SH w K [] w' K' [] ∧ rng64 r := by
 rw [M.slices_Index_string] at hm
 refine calls_in func105 rfl ntmps105 rfl (sr (lv (rv_assign (v := .int .i64 0) rfl) (nsr (mv rfl (lv (rv_len (t := tStr) underlying23 rfl c) (lv (rv_move (v := .int .i64 0) rfl) (nq ?_)))))))
 obtain ⟨A, B, d⟩ := ob hm
 refine wc_cutg (fun E' w' => ∃ q f, A = .inl q ∧ E' = [] ∧ SH w K [] w' f [] ∧ KLe K f) ?_ ?_
 ·refine wc_block ?_
  obtain ⟨ab, C, s⟩ := ob B
  refine qf (fun (x : Nat) (y : Unit) E' w' => ∃ a, E' = [(0, .slice k l m), (1, sv p1_v), (7, .int .i64 (p0_s.length : Int)), (8, .int .i64 ((x : Nat) : Int))] ∧ SH w K [] w' a [] ∧ KLe K a) C ⟨K, rfl, hS, (KLe.refl _)⟩ ?_ ?_
  ·rintro x y _ D ac hi24 G H ⟨a, rfl, b, i⟩
   refine sr (lv (rv_lss rfl rfl) (ns (wc_cond_t rfl (decide_eq_true (by omega)) (wc_skip (qe_seq (wc_seq (wc_block (sr (mv rfl (av rfl (nr (mv rfl ?_))))))))))))
   refine mv rfl (mv rfl ?_)
   obtain ⟨I, J, O⟩ := ob G
   refine li underlying23 tf9 (c.mono i) J fun R S ad T U => ?_
   obtain ⟨rfl, ae⟩ := T
   have V : AtK _ R S [sv I] := U
   refine lv (rv_load1 tf9 rfl b (V 0 _ rfl)) (lv (rv_seql rfl rfl) (nq (wcc O rfl (fun W o => ?_) (fun W o => ?_))))
   ·refine sr (mv rfl (av rfl (nq (wc_ret (qe_block_ret (qe_then_ret (qe_then_ret ?_)))))))
    obtain rfl := oi o
    have X := H _ rfl
    subst X
    refine qe_block_ret (qe_then_ret ?_)
    obtain rfl := oi s
    refine qe_then_ret ?_
    obtain rfl := oi d
    exact er results105 ⟨rfl, trivial⟩ ⟨a, rfl, b, (rng_idx hi24 (SliceAt.max c))⟩
   refine wc_skip (qe_block (qg (lv (rv_add_to rfl rfl (w64_succ hi24 (SliceAt.max c))) (mv rfl (wl_nil ?_)))))
   obtain rfl := oi o
   exact qd ⟨_, rfl, a, rfl, b, i⟩
  rintro y _ D Y ⟨a, rfl, b, i⟩
  subst Y
  refine sr (lv (rv_lss rfl rfl) (ns (wc_cond_f rfl (decide_eq_false (by omega)) (wc_exit (qe_then_exit (qe_then_exit (qe_block_eq ?_)))))))
  obtain rfl := oi s
  exact qe_mid' ⟨_, a, rfl, rfl, b, i⟩ trivial
 rintro _ af ⟨q, f, rfl, rfl, Z, ag⟩
 have d := elim_l d
 refine qr (lv (rv_assign (v := .int .i64 (-1)) rfl) (nq (wc_ret ?_)))
 obtain rfl := oi d
 exact er results105 ⟨rfl, trivial⟩ ⟨f, rfl, Z, (by decide : rng64 (-1))⟩

theorem ok_slices_Contains_string (F : Nat) {w : World} {K : KMap} {a : Option Addr} {b c : Nat} {p0_s : List Str} {p1_v : Str} {r : Bool} (hS : SH w K [] w K []) (d : SliceAt tStr K a b c p0_s) (f : p1_v.length ≤ maxLen) (hm : M.slices_Contains_string F p0_s p1_v = some r) :
  Calls Tryz.prog 58 #[.slice a b c, sv p1_v] w fun e w' => ∃ K', e = .returned (.bool r) ∧ SH w K [] w' K' [] := by
 rw [M.slices_Contains_string] at hm
 refine calls_in func58 rfl ntmps58 rfl (sr (lv (rv_assign (v := .bool false) rfl) (nr (mv rfl (mv rfl ?_)))))
 obtain ⟨q, i, k⟩ := ob hm
 refine lc (vs := [.slice a b c, sv p1_v]) co105 ((ok_slices_Index_string F) hS.enter0 d f i) ?_
 rintro s x ⟨l, rfl, m, y⟩
 refine ⟨_, rfl, ?_⟩
 have o := (hS.c0 m).t0
 refine lv (rv_geq rfl rfl) (av rfl (nq (wc_ret ?_)))
 obtain rfl := oi k
 exact er results58 ⟨rfl, trivial⟩ ⟨l, rfl, o⟩

set_option maxHeartbeats 2000000 in
theorem ok_impl_ConfOk (F : Nat) {w : World} {K : KMap} {q : Option Addr} {s x : Nat} {b : Option Addr} {c d : Nat} {p0_c : GConf} {r : Bool} (hS : SH w K [] w K []) (aj : SliceAt tStr K q s x p0_c.Stops) (aa : SliceAt tGSyn K b c d p0_c.Syns) (hm : M.impl_ConfOk F p0_c = some r) :
  Calls Tryz.prog 20 #[.agg #[.slice q s x, .slice b c d]] w fun e w' => ∃ K', e = .returned (.bool r) ∧ SH w K [] w' K' [] := by
 rw [M.impl_ConfOk] at hm
 refine calls_in func20 rfl ntmps20 rfl (sr (bx rfl hS fun f cq a3 => ?_))
 have O : SH _ _ _ _ _ [obj f [.slice q s x, .slice b c d] 26] := a3
 refine lv (rv_assign (v := .bool false) rfl) (ns (wc_seq ?_))
 obtain ⟨a4, aG, a6⟩ := ob hm
 refine wc_cutg (fun E' w' => ∃ A, E' = [(1, pt f), (22, .bool a4)] ∧ SH w K [] w' A [obj f [.slice q s x, .slice b c d] 26] ∧ KLe K A) ?_ ?_
 ·refine wc_region (fa ff26_0 rfl (lv (rv_loadm1 tf23 rfl m0 O rfl) (lv (rv_len (t := tStr) underlying23 rfl aj) (lv (rv_gtr rfl rfl) (mv rfl ?_)))))
  rcases bool_tf (decide ((6 : Int) < (p0_c.Stops.length : Int))) with i | i
  ·have ak := cond_t i aG
   refine lu i (lu i (lu i (lu i (lv (rv_pick_t (v := .bool true) rfl i rfl) (mv rfl (lu rfl (lu rfl (lu rfl (lu rfl ?_)))))))))
   refine lv (rv_pick_t (v := .bool true) rfl rfl rfl) (wl_nil ?_)
   obtain rfl := oi ak
   exact qd ⟨K, rfl, O, (KLe.refl _)⟩
  have ak := cond_f i aG
  refine lg i (rv_fieldAddr ff26_0 rfl) (lg i (rv_loadm1 tf23 rfl m0 O rfl) ?_)
  obtain ⟨a7, a8, aH⟩ := ob ak
  refine wl_call (wg rfl rfl i) rfl (rt_call (vs := [.slice q s x]) co54 rfl) ((ok_impl_wordsAscend F) O.enter0 aj a8) ?_
  rintro cr ct ⟨aI, rfl, ab⟩
  refine ⟨_, rfl, ?_⟩
  have am := (O.c0 ab).t1
  refine lg i (rv_not rfl) (lv (rv_pick_f rfl i rfl) (mv rfl ?_))
  rcases bool_tf ((!a7)) with k | k
  ·have an := cond_t k aH
   refine lu k (lu k (lu k (lu k (lv (rv_pick_t (v := .bool true) rfl k rfl) (wl_nil ?_)))))
   obtain rfl := oi an
   exact qd ⟨aI, rfl, am, ab.le⟩
  have an := cond_f k aH
  refine lg k (rv_fieldAddr ff26_1 rfl) (lg k (rv_loadm1 tf24 rfl m0 am rfl) (lg k (rv_len (t := tGSyn) underlying24 rfl (aa.mono ab.le)) (lg k (rv_gtr rfl rfl) (lv (rv_pick_f rfl k rfl) (wl_nil ?_)))))
  obtain rfl := oi an
  exact qd ⟨aI, rfl, am, ab.le⟩
 rintro _ cu ⟨A, rfl, ao, ac⟩
 refine qe_seq (wcc a6 rfl (fun a9 ap => ?_) (fun a9 ap => ?_))
 ·refine sr (lv (rv_assign (v := .bool false) rfl) (nq (rr ?_)))
  obtain rfl := oi ap
  have ba := ao.sb (sd sz)
  exact er results20 ⟨rfl, trivial⟩ ⟨A, rfl, ba⟩
 refine wc_skip (qs (sr (fa ff26_1 rfl (lv (rv_loadm1 tf24 rfl m0 ao rfl) (lv (rv_len (t := tGSyn) underlying24 rfl (aa.mono ac)) (lv (rv_move (v := .int .i64 0) rfl) (nq ?_)))))))
 obtain ⟨bb, bc, R⟩ := ob ap
 refine wc_cutg (fun E' w' => ∃ aJ ad, bb = .inl aJ ∧ E' = [] ∧ SH w K [] w' ad [] ∧ KLe A ad) ?_ ?_
 ·refine wc_block ?_
  obtain ⟨cv, bd, aq⟩ := ob bc
  refine qf (fun (H : Nat) (aK : Unit) E' w' => ∃ I, E' = [(1, pt f), (24, .slice b c d), (25, .int .i64 (p0_c.Syns.length : Int)), (26, .int .i64 ((H : Nat) : Int))] ∧ SH w K [] w' I [obj f [.slice q s x, .slice b c d] 26] ∧ KLe A I) bd ⟨A, rfl, ao, (KLe.refl _)⟩ ?_ ?_
  ·rintro H aK _ be cw hi53 bf aL ⟨I, rfl, ae, S⟩
   refine sr (lv (rv_lss rfl rfl) (ns (wc_cond_t rfl (decide_eq_true (by omega)) (wc_skip (qe_seq (wc_seq (wc_block (sr ?_))))))))
   obtain ⟨y, bg, bh⟩ := ob bf
   refine li underlying24 tf105 (aa.mono (ac.trans S)) bg fun bi bj cx bk bl => ?_
   obtain ⟨B, C, D, rfl, T, ar⟩ := bk
   have bm : AtK _ bi bj [.slice B C D, sv y.To] := bl
   refine lv (rv_loadS (cs := [.slice B C D, sv y.To]) tf105 rfl ae bm rfl) (al tf105 ae fun au cy bn => ?_)
   have bo : SH _ _ _ _ _ [obj au [.slice none 0 0, sv []] 105, _] := bn
   refine ls [.slice B C D, sv y.To] (.agg #[.slice B C D, sv y.To]) tf105 bo fun cz aM => (ns (wc_seq ?_))
   obtain ⟨bp, bq, br⟩ := ob bh
   refine wc_cutg (fun E' w' => ∃ G, E' = [(1, pt f), (4, pt au), (24, .slice b c d), (25, .int .i64 (p0_c.Syns.length : Int)), (26, .int .i64 ((H : Nat) : Int)), (48, .bool bp)] ∧ SH w K [] w' G [obj f [.slice q s x, .slice b c d] 26, obj au [.slice B C D, sv y.To] 105] ∧ KLe I G) ?_ ?_
   ·refine wc_quiet mixed (by kernel_rfl) aM (kv (rv_fieldAddr ff105_0 rfl) (kh (rq_loadm1 tf23 rfl m0 rfl) (kv (rv_len (t := tStr) underlying23 rfl T) ?_)))
    obtain ⟨aN, bs, aO⟩ := ob bq
    refine wq_call (v := .bool aN) wn rfl (fun _ => rt_call (vs := [.int .i64 (y.From.length : Int), .int .i64 1, .int .i64 3]) co55 rfl) (fun cA ⟨cB, aP, bt⟩ => ((ok_impl_within F) aP.enter0 (rng_nat (SliceAt.max T)) (by decide : rng64 1) (by decide : rng64 3) bs).mono fun e w' ⟨K', he, hS'⟩ => ⟨he, K', aP.call0 hS', bt.trans hS'.le⟩) (kv (rv_not rfl) (km rfl ?_))
    rcases bool_tf ((!aN)) with l | l
    ·have aw := cond_t l aO
     refine kn l (kn l (kn l (kn l (kv (rv_pick_t (v := .bool true) rfl l rfl) (km rfl (qv rfl rfl rfl rfl (qv rfl rfl rfl rfl (qv rfl rfl rfl rfl (qv rfl rfl rfl rfl ?_)))))))))
     refine qv rfl rfl rfl rfl (qv rfl rfl rfl rfl (kv (rv_pick_t (v := .bool true) rfl rfl rfl) (wq_nil ?_)))
     rintro cC ⟨bu, bv, bw⟩
     obtain rfl := oi aw
     exact qd ⟨bu, rfl, bv.f1, bw⟩
    have aw := cond_f l aO
    refine kg l (rv_fieldAddr ff105_1 rfl) (kgh l (rq_loadm1 tf9 rfl m0 rfl) ?_)
    obtain ⟨aQ, bz, aR⟩ := ob aw
    refine wq_call (v := .bool aQ) (wg rfl rfl l) rfl (fun _ => rt_call (vs := [sv y.To]) co56 rfl) (fun cD ⟨cE, aS, bA⟩ => ((ok_impl_WordOk F) aS.enter0 ar bz).mono fun e w' ⟨K', he, hS'⟩ => ⟨he, K', aS.call0 hS', bA.trans hS'.le⟩) (kg l (rv_not rfl) (kv (rv_pick_f rfl l rfl) (km rfl ?_)))
    rcases bool_tf ((!aQ)) with a | a
    ·have ax := cond_t a aR
     refine kn a (kn a (kn a (kn a (kn a (kn a (kv (rv_pick_t (v := .bool true) rfl a rfl) (wq_nil ?_)))))))
     rintro cF ⟨bB, bC, bD⟩
     obtain rfl := oi ax
     exact qd ⟨bB, rfl, bC.f1, bD⟩
    have ax := cond_f a aR
    refine kg a (rv_fieldAddr ff105_1 rfl) (kgh a (rq_loadm1 tf9 rfl m0 rfl) ?_)
    obtain ⟨bE, aT, bF⟩ := ob ax
    refine wq_call (v := sv bE) (wg rfl rfl a) rfl (fun _ => rt_call (vs := [sv y.To]) co57 rfl) (fun cG ⟨cH, aU, bG⟩ => ((ok_impl_StemOf F) aU.enter0 ar aT).mono fun e w' ⟨K', he, hS', _⟩ => ⟨he, K', aU.call0 hS', bG.trans hS'.le⟩) ?_
    obtain ⟨_, _, _, ⟨_, _, _, cI⟩, _⟩ := (ok_impl_StemOf F) aM.enter0 ar aT []
    refine kg a (rv_fieldAddr ff105_1 rfl) (kgh a (rq_loadm1 tf9 rfl m0 rfl) (kg a (rv_sneq rfl rfl) (kv (rv_pick_f rfl a rfl) (wq_nil ?_))))
    rintro cJ ⟨bH, bI, bJ⟩
    obtain rfl := oi bF
    exact qd ⟨bH, rfl, bI.f1, bJ⟩
   rintro _ cK ⟨G, rfl, ay, U⟩
   refine qe_seq (wcc br rfl (fun bK az => ?_) (fun bK az => ?_))
   ·refine sr (lv (rv_assign (v := .bool false) rfl) (nq (rr (qe_block_ret (qe_then_ret (qe_then_ret ?_))))))
    obtain rfl := oi az
    have bL := aL _ rfl
    subst bL
    refine qe_block_ret (qe_then_ret ?_)
    obtain rfl := oi aq
    refine qe_then_ret ?_
    obtain rfl := oi R
    have bM := ay.sb (sd (sd sz))
    exact er results20 ⟨rfl, trivial⟩ ⟨G, rfl, bM⟩
   refine wc_skip (qr (fa ff105_0 rfl (lv (rv_loadm1 tf23 rfl m1 ay rfl) (lv (rv_len (t := tStr) underlying23 rfl (T.mono U)) (lv (rv_move (v := .int .i64 0) rfl) (nq ?_))))))
   obtain ⟨bN, bO, af⟩ := ob az
   refine wc_cutg (fun E' w' => ∃ aV ag, bN = .inl aV ∧ E' = [(1, pt f), (24, .slice b c d), (25, .int .i64 (p0_c.Syns.length : Int)), (26, .int .i64 ((H : Nat) : Int))] ∧ SH w K [] w' ag [obj f [.slice q s x, .slice b c d] 26] ∧ KLe G ag) ?_ ?_
   ·refine wc_block ?_
    obtain ⟨cL, bP, aW⟩ := ob bO
    have bQ := ay.sb (sk (sd sz))
    refine qf (fun (aA : Nat) (aX : Unit) E' w' => ∃ J, E' = [(1, pt f), (24, .slice b c d), (25, .int .i64 (p0_c.Syns.length : Int)), (26, .int .i64 ((H : Nat) : Int)), (50, .slice B C D), (51, .int .i64 (y.From.length : Int)), (52, .int .i64 ((aA : Nat) : Int))] ∧ SH w K [] w' J [obj f [.slice q s x, .slice b c d] 26] ∧ KLe G J) bP ⟨G, rfl, bQ, (KLe.refl _)⟩ ?_ ?_
    ·rintro aA aX _ bR cM hi147 bS bT ⟨J, rfl, V, W⟩
     refine sr (lv (rv_lss rfl rfl) (ns (wc_cond_t rfl (decide_eq_true (by omega)) (wc_skip (qe_seq (wc_seq (wc_block (sr ?_))))))))
     obtain ⟨X, bU, bV⟩ := ob bS
     refine li underlying23 tf9 (T.mono (U.trans W)) bU fun bW bX cN bY bZ => ?_
     obtain ⟨rfl, aB⟩ := bY
     have b0 : AtK _ bW bX [sv X] := bZ
     refine lv (rv_load1 tf9 rfl V (b0 0 _ rfl)) (av rfl (ns ?_))
     obtain ⟨b1, b2, b3⟩ := ob bV
     refine wc_cutg (fun E' w' => ∃ Y, E' = [(1, pt f), (24, .slice b c d), (25, .int .i64 (p0_c.Syns.length : Int)), (26, .int .i64 ((H : Nat) : Int)), (50, .slice B C D), (51, .int .i64 (y.From.length : Int)), (52, .int .i64 ((aA : Nat) : Int)), (70, .bool b1)] ∧ SH w K [] w' Y [obj f [.slice q s x, .slice b c d] 26] ∧ KLe J Y) ?_ ?_
     ·refine wc_region (mv rfl ?_)
      obtain ⟨b4, b5, aY⟩ := ob b2
      refine lc (vs := [sv X]) co56 ((ok_impl_WordOk F) V.enter0 aB b5) ?_
      rintro cO cP ⟨b6, rfl, Z⟩
      refine ⟨_, rfl, ?_⟩
      have aC := (V.c0 Z).t1
      refine lv (rv_not rfl) (mv rfl ?_)
      rcases bool_tf ((!b4)) with m | m
      ·have aD := cond_t m aY
       refine lu m (lu m (lu m (lu m (lv (rv_pick_t (v := .bool true) rfl m rfl) (mv rfl (lu rfl (lu rfl (lu rfl (lu rfl ?_)))))))))
       refine lv (rv_pick_t (v := .bool true) rfl rfl rfl) (wl_nil ?_)
       obtain rfl := oi aD
       exact qd ⟨b6, rfl, aC, Z.le⟩
      have aD := cond_f m aY
      refine lg m (rv_move rfl) ?_
      obtain ⟨b7, b8, aZ⟩ := ob aD
      refine wl_call (wg rfl rfl m) rfl (rt_call (vs := [sv X]) co57 rfl) ((ok_impl_StemOf F) aC.enter0 aB b8) ?_
      rintro cQ cR ⟨b9, rfl, ah, cS⟩
      refine ⟨_, rfl, ?_⟩
      have ai := (aC.c0 ah).t1
      refine lg m (rv_move rfl) (lg m (rv_sneq rfl rfl) (lv (rv_pick_f rfl m rfl) (mv rfl ?_)))
      rcases bool_tf ((!(b7 == X))) with o | o
      ·have aE := cond_t o aZ
       refine lu o (lu o (lu o (lu o (lv (rv_pick_t (v := .bool true) rfl o rfl) (wl_nil ?_)))))
       obtain rfl := oi aE
       exact qd ⟨b9, rfl, ai, (Z.le.trans ah.le)⟩
      have aE := cond_f o aZ
      refine lg o (rv_fieldAddr ff26_0 rfl) (lg o (rv_loadm1 tf23 rfl m0 ai rfl) (lg o (rv_move rfl) ?_))
      obtain ⟨cT, ca, cb⟩ := ob aE
      refine wl_call (wg rfl rfl o) rfl (rt_call (vs := [.slice q s x, sv X]) co58 rfl) ((ok_slices_Contains_string F) ai.enter0 (SliceAt.mono (((((ac.trans S).trans U).trans W).trans Z.le).trans ah.le) aj) aB ca) ?_
      rintro cU cV ⟨cc, rfl, a0⟩
      refine ⟨_, rfl, ?_⟩
      have cd := (ai.c0 a0).t1
      refine lv (rv_pick_f rfl o rfl) (wl_nil ?_)
      obtain rfl := oi cb
      exact qd ⟨cc, rfl, cd, ((Z.le.trans ah.le).trans a0.le)⟩
     rintro _ cW ⟨Y, rfl, a2, ce⟩
     refine qe_seq (wcc b3 rfl (fun cf aF => ?_) (fun cf aF => ?_))
     ·refine sr (lv (rv_assign (v := .bool false) rfl) (nq (wc_ret (qe_block_ret (qe_then_ret (qe_then_ret ?_))))))
      obtain rfl := oi aF
      have cg := bT _ rfl
      subst cg
      refine qe_block_ret (qe_then_ret ?_)
      obtain rfl := oi aW
      refine qe_block_ret (qe_then_ret (qe_then_ret ?_))
      obtain rfl := oi af
      have ch := aL _ rfl
      subst ch
      refine qe_block_ret (qe_then_ret ?_)
      obtain rfl := oi aq
      refine qe_then_ret ?_
      obtain rfl := oi R
      have ci := a2.sb (sd sz)
      exact er results20 ⟨rfl, trivial⟩ ⟨Y, rfl, ci⟩
     refine wc_skip (qe_block (qg (lv (rv_add_to rfl rfl (w64_succ hi147 (SliceAt.max (T.mono U)))) (mv rfl (wl_nil ?_)))))
     obtain rfl := oi aF
     exact qd ⟨_, rfl, Y, rfl, a2, (W.trans ce)⟩
    rintro aX _ bR cj ⟨J, rfl, V, W⟩
    subst cj
    refine sr (lv (rv_lss rfl rfl) (ns (wc_cond_f rfl (decide_eq_false (by omega)) (wc_exit (qe_then_exit (qe_then_exit (qe_block_eq ?_)))))))
    obtain rfl := oi aW
    exact qd ⟨_, J, rfl, rfl, V, W⟩
   rintro _ cX ⟨aV, ag, rfl, rfl, ck, cl⟩
   have af := elim_l af
   refine qe_block (qg (lv (rv_add_to rfl rfl (w64_succ hi53 (SliceAt.max (aa.mono ac)))) (mv rfl (wl_nil ?_))))
   obtain rfl := oi af
   exact qd ⟨_, rfl, ag, rfl, ck, ((S.trans U).trans cl)⟩
  rintro aK _ be cm ⟨I, rfl, ae, S⟩
  subst cm
  refine sr (lv (rv_lss rfl rfl) (ns (wc_cond_f rfl (decide_eq_false (by omega)) (wc_exit (qe_then_exit (qe_then_exit (qe_block_eq ?_)))))))
  obtain rfl := oi aq
  have cn := ae.sb (sd sz)
  exact qe_mid' ⟨_, I, rfl, rfl, cn, S⟩ trivial
 rintro _ cY ⟨aJ, ad, rfl, rfl, cp, cZ⟩
 have R := elim_l R
 refine qr (lv (rv_assign (v := .bool true) rfl) (nq (wc_ret ?_)))
 obtain rfl := oi R
 exact er results20 ⟨rfl, trivial⟩ ⟨ad, rfl, cp⟩

theorem ok_impl_TextOk (F : Nat) {w : World} {K : KMap} {p0_s : Str} {r : Bool} (hS : SH w K [] w K []) (C : p0_s.length ≤ maxLen) (hm : M.impl_TextOk F p0_s = some r) :
  Calls Tryz.prog 121 #[sv p0_s] w fun e w' => ∃ K', e = .returned (.bool r) ∧ SH w K [] w' K' [] := by
 rw [M.impl_TextOk] at hm
 refine calls_in func121 rfl ntmps121 rfl (sr (lv (rv_assign (v := .bool false) rfl) (nsr (mv rfl (lv (rv_slen underlying9 rfl) (lv (rv_move (v := .int .i64 0) rfl) (nq ?_)))))))
 obtain ⟨D, G, f⟩ := ob hm
 refine wc_cutg (fun E' w' => ∃ s i, D = .inl s ∧ E' = [(0, sv p0_s)] ∧ SH w K [] w' i [] ∧ KLe K i) ?_ ?_
 ·refine wc_block ?_
  obtain ⟨ad, H, x⟩ := ob G
  refine qf (fun (l : Nat) (y : Unit) E' w' => ∃ c, E' = [(0, sv p0_s), (5, .int .i64 (p0_s.length : Int)), (6, .int .i64 ((l : Nat) : Int))] ∧ SH w K [] w' c [] ∧ KLe K c) H ⟨K, rfl, hS, (KLe.refl _)⟩ ?_ ?_
  ·rintro l y _ I ae hi20 J O ⟨c, rfl, k, m⟩
   refine sr (lv (rv_lss rfl rfl) (ns (wc_cond_t rfl (decide_eq_true (by omega)) (wc_skip (qe_seq (wc_seq (wc_block (sr (mv rfl (av rfl (ns ?_)))))))))))
   obtain ⟨R, S, T⟩ := ob J
   refine wc_cutg (fun E' w' => ∃ d, E' = [(0, sv p0_s), (5, .int .i64 (p0_s.length : Int)), (6, .int .i64 ((l : Nat) : Int)), (18, .bool R)] ∧ SH w K [] w' d [] ∧ KLe c d) ?_ ?_
   ·refine wc_region (mv rfl (mv rfl ?_))
    obtain ⟨U, V, A⟩ := ob S
    refine lv (rv_sidx underlying9 rfl rfl V) (lv (rv_bl (b := (32 : UInt8)) rfl rfl) (mv rfl ?_))
    rcases bool_tf (decide (U < (32 : UInt8))) with a | a
    ·have o := cond_t a A
     refine lu a (lu a (lu a (lu a (lv (rv_pick_t (v := .bool true) rfl a rfl) (wl_nil ?_)))))
     obtain rfl := oi o
     exact qd ⟨c, rfl, k, (KLe.refl _)⟩
    have o := cond_f a A
    refine lg a (rv_move rfl) (lg a (rv_move rfl) ?_)
    obtain ⟨af, W, X⟩ := ob o
    refine lg a (rv_sidx underlying9 rfl rfl W) (lg a (rv_bg (b := (126 : UInt8)) rfl rfl) (lv (rv_pick_f rfl a rfl) (wl_nil ?_)))
    obtain rfl := oi X
    exact qd ⟨c, rfl, k, (KLe.refl _)⟩
   rintro _ ag ⟨d, rfl, B, Y⟩
   refine qe_seq (wcc T rfl (fun Z q => ?_) (fun Z q => ?_))
   ·refine sr (lv (rv_assign (v := .bool false) rfl) (nq (wc_ret (qe_block_ret (qe_then_ret (qe_then_ret ?_))))))
    obtain rfl := oi q
    have aa := O _ rfl
    subst aa
    refine qe_block_ret (qe_then_ret ?_)
    obtain rfl := oi x
    refine qe_then_ret ?_
    obtain rfl := oi f
    exact er results121 ⟨rfl, trivial⟩ ⟨d, rfl, B⟩
   refine wc_skip (qe_block (qg (lv (rv_add_to rfl rfl (w64_succ hi20 C)) (mv rfl (wl_nil ?_)))))
   obtain rfl := oi q
   exact qd ⟨_, rfl, d, rfl, B, (m.trans Y)⟩
  rintro y _ I ab ⟨c, rfl, k, m⟩
  subst ab
  refine sr (lv (rv_lss rfl rfl) (ns (wc_cond_f rfl (decide_eq_false (by omega)) (wc_exit (qe_then_exit (qe_then_exit (qe_block_eq ?_)))))))
  obtain rfl := oi x
  exact qd ⟨_, c, rfl, rfl, k, m⟩
 rintro _ w8 ⟨s, i, rfl, rfl, ac, ai⟩
 have f := elim_l f
 refine qr (mv rfl (lv (rv_slen underlying9 rfl) (lv (rv_leq rfl rfl) (av rfl (nq (wc_ret ?_))))))
 obtain rfl := oi f
 exact er results121 ⟨rfl, trivial⟩ ⟨i, rfl, ac⟩

set_option maxHeartbeats 2000000 in
theorem ok_impl_DocOk (F : Nat) {w : World} {K : KMap} {o : Option Addr} {q s : Nat} {x : Option Addr} {y A : Nat} {p0_d : GDoc} {r : Bool} (hS : SH w K [] w K []) (aW : rng64 p0_d.Id) (R : SliceAt tGField K o q s p0_d.Fields) (S : SliceAt tGAttr K x y A p0_d.Nums) (hm : M.impl_DocOk F p0_d = some r) :
  Calls Tryz.prog 88 #[.agg #[.int .i64 p0_d.Id, .slice o q s, .slice x y A]] w fun e w' => ∃ K', e = .returned (.bool r) ∧ SH w K [] w' K' [] := by
 rw [M.impl_DocOk] at hm
 refine calls_in func88 rfl ntmps88 rfl (sr (bx rfl hS fun f cX aX => ?_))
 have aj : SH _ _ _ _ _ [obj f [.int .i64 p0_d.Id, .slice o q s, .slice x y A] 71] := aX
 refine lv (rv_assign (v := .bool false) rfl) (ns (wc_seq ?_))
 obtain ⟨aY, aZ, a0⟩ := ob hm
 refine wc_cutg (fun E' w' => ∃ G, E' = [(1, pt f), (22, .bool aY)] ∧ SH w K [] w' G [obj f [.int .i64 p0_d.Id, .slice o q s, .slice x y A] 71] ∧ KLe K G) ?_ ?_
 ·refine wc_region (fa ff71_0 rfl (lv (rv_loadm1 tf3 rfl m0 aj rfl) ?_))
  obtain ⟨a1, a3, ay⟩ := ob aZ
  refine lc (vs := [.int .i64 p0_d.Id, .int .i64 1, .int .i64 9999]) co55 ((ok_impl_within F) aj.enter0 aW (by decide : rng64 1) (by decide : rng64 9999) a3) ?_
  rintro cY cZ ⟨ak, rfl, H⟩
  refine ⟨_, rfl, ?_⟩
  have T := (aj.c0 H).t1
  refine lv (rv_not rfl) (mv rfl ?_)
  rcases bool_tf ((!a1)) with i | i
  ·have Y := cond_t i ay
   refine lu i (lu i (lu i (lu i (lv (rv_pick_t (v := .bool true) rfl i rfl) (mv rfl (lu rfl (lu rfl (lu rfl (lu rfl ?_)))))))))
   refine lv (rv_pick_t (v := .bool true) rfl rfl rfl) (wl_nil ?_)
   obtain rfl := oi Y
   exact qd ⟨ak, rfl, T, H.le⟩
  have Y := cond_f i ay
  refine lg i (rv_fieldAddr ff71_1 rfl) (lg i (rv_loadm1 tf68 rfl m0 T rfl) (lg i (rv_len (t := tGField) underlying68 rfl (R.mono H.le)) (lg i (rv_gtr rfl rfl) (lv (rv_pick_f rfl i rfl) (mv rfl ?_)))))
  rcases bool_tf (decide ((3 : Int) < (p0_d.Fields.length : Int))) with k | k
  ·have am := cond_t k Y
   refine lu k (lu k (lu k (lu k (lv (rv_pick_t (v := .bool true) rfl k rfl) (wl_nil ?_)))))
   obtain rfl := oi am
   exact qd ⟨ak, rfl, T, H.le⟩
  have am := cond_f k Y
  refine lg k (rv_fieldAddr ff71_2 rfl) (lg k (rv_loadm1 tf69 rfl m0 T rfl) (lg k (rv_len (t := tGAttr) underlying69 rfl (S.mono H.le)) (lg k (rv_gtr rfl rfl) (lv (rv_pick_f rfl k rfl) (wl_nil ?_)))))
  obtain rfl := oi am
  exact qd ⟨ak, rfl, T, H.le⟩
 rintro _ c0 ⟨G, rfl, an, D⟩
 refine qe_seq (wcc a0 rfl (fun a4 ao => ?_) (fun a4 ao => ?_))
 ·refine sr (lv (rv_assign (v := .bool false) rfl) (nq (rr ?_)))
  obtain rfl := oi ao
  have a5 := an.sb (sd sz)
  exact er results88 ⟨rfl, trivial⟩ ⟨G, rfl, a5⟩
 refine wc_skip (qs (sr (fa ff71_1 rfl (lv (rv_loadm1 tf68 rfl m0 an rfl) (lv (rv_len (t := tGField) underlying68 rfl (R.mono D)) (lv (rv_move (v := .int .i64 0) rfl) (nq ?_)))))))
 obtain ⟨a7, a8, Z⟩ := ob ao
 refine wc_cutg (fun E' w' => ∃ az I, a7 = .inl az ∧ E' = [(1, pt f)] ∧ SH w K [] w' I [obj f [.int .i64 p0_d.Id, .slice o q s, .slice x y A] 71] ∧ KLe G I) ?_ ?_
 ·refine wc_block ?_
  obtain ⟨c1, a9, aA⟩ := ob a8
  refine qf (fun (aa : Nat) (aB : Unit) E' w' => ∃ J, E' = [(1, pt f), (24, .slice o q s), (25, .int .i64 (p0_d.Fields.length : Int)), (26, .int .i64 ((aa : Nat) : Int))] ∧ SH w K [] w' J [obj f [.int .i64 p0_d.Id, .slice o q s, .slice x y A] 71] ∧ KLe G J) a9 ⟨G, rfl, an, (KLe.refl _)⟩ ?_ ?_
  ·rintro aa aB _ ba c2 hi54 bb bc ⟨J, rfl, ab, U⟩
   refine sr (lv (rv_lss rfl rfl) (ns (wc_cond_t rfl (decide_eq_true (by omega)) (wc_skip (qe_seq (wc_seq (wc_block (sr (mv rfl ?_)))))))))
   obtain ⟨B, bd, be⟩ := ob bb
   refine li underlying68 tf141 (R.mono (D.trans U)) bd fun bf bg c3 bh bi => ?_
   obtain ⟨rfl, bj, bk⟩ := bh
   have bl : AtK _ bf bg [sv B.Name, sv B.Text] := bi
   refine lv (rv_loadS (cs := [sv B.Name, sv B.Text]) tf141 rfl ab bl rfl) (al tf141 ab fun bm c5 bn => ?_)
   have bo : SH _ _ _ _ _ [obj bm [sv [], sv []] 141, _] := bn
   refine av rfl (ls [sv B.Name, sv B.Text] (.agg #[sv B.Name, sv B.Text]) tf141 bo fun c6 bp => (ns ?_))
   obtain ⟨bq, br, bs⟩ := ob be
   refine wc_cutg (fun E' w' => ∃ V, E' = [(1, pt f), (24, .slice o q s), (25, .int .i64 (p0_d.Fields.length : Int)), (26, .int .i64 ((aa : Nat) : Int)), (56, .bool bq)] ∧ SH w K [] w' V [obj f [.int .i64 p0_d.Id, .slice o q s, .slice x y A] 71] ∧ KLe J V) ?_ ?_
   ·refine wc_quiet mixed (by kernel_rfl) bp (kv (rv_fieldAddr ff141_0 rfl) (kh (rq_loadm1 tf9 rfl m0 rfl) ?_))
    obtain ⟨aC, bt, aD⟩ := ob br
    refine wq_call (v := .bool aC) wn rfl (fun _ => rt_call (vs := [sv B.Name]) co56 rfl) (fun c7 ⟨c9, aE, bu⟩ => ((ok_impl_WordOk F) aE.enter0 bj bt).mono fun e w' ⟨K', he, hS'⟩ => ⟨he, K', aE.call0 hS', bu.trans hS'.le⟩) (kv (rv_not rfl) (km rfl ?_))
    rcases bool_tf ((!aC)) with l | l
    ·have ap := cond_t l aD
     refine kn l (kn l (kn l (kn l (kv (rv_pick_t (v := .bool true) rfl l rfl) (km rfl (qv rfl rfl rfl rfl (qv rfl rfl rfl rfl (qv rfl rfl rfl rfl (ku ?_)))))))))
     refine ku (ku (ku (ku (ku (ku (ku (ku (ku (qv rfl rfl rfl rfl ?_)))))))))
     refine kv (rv_pick_t (v := .bool true) rfl rfl rfl) (wq_nil ?_)
     rintro da ⟨bv, bw, bz⟩
     obtain rfl := oi ap
     have bA := bw.sb (sd (sk sz))
     exact qd ⟨bv, rfl, bA, bz⟩
    have ap := cond_f l aD
    refine kg l (rv_fieldAddr ff141_1 rfl) (kgh l (rq_loadm1 tf9 rfl m0 rfl) ?_)
    obtain ⟨aF, bB, aG⟩ := ob ap
    refine wq_call (v := .bool aF) (wg rfl rfl l) rfl (fun _ => rt_call (vs := [sv B.Text]) co121 rfl) (fun db ⟨dc, aH, bC⟩ => ((ok_impl_TextOk F) aH.enter0 bk bB).mono fun e w' ⟨K', he, hS'⟩ => ⟨he, K', aH.call0 hS', bC.trans hS'.le⟩) (kg l (rv_not rfl) (kv (rv_pick_f rfl l rfl) (km rfl ?_)))
    rcases bool_tf ((!aF)) with c | c
    ·have ac := cond_t c aG
     refine kn c (kn c (kn c (ku (ku (ku (ku (ku (ku (ku ?_)))))))))
     refine ku (ku (ku (kn c (kv (rv_pick_t (v := .bool true) rfl c rfl) (wq_nil ?_)))))
     rintro dd ⟨bD, bE, bF⟩
     obtain rfl := oi ac
     have bG := bE.sb (sd (sk sz))
     exact qd ⟨bD, rfl, bG, bF⟩
    have ac := cond_f c aG
    refine kg c (rv_move rfl) (kg c (rv_gtr rfl rfl) (kg c (rv_move rfl) ?_))
    rcases bool_tf (decide ((0 : Int) < ((aa : Nat) : Int))) with a | a
    ·have aq := cond_t a ac
     refine kg a (rv_fieldAddr ff71_1 rfl) (kgh a (rq_loadm1 tf68 rfl m1 rfl) (kg a (rv_move rfl) (kg a (rv_sub rfl rfl) ?_)))
     obtain ⟨aI, bH, bI⟩ := ob aq
     refine wq_indexAddr (t := tGField) (wg rfl rfl a) rfl underlying68 tf141 rfl rfl (R.mono (D.trans U)) bH fun bJ bK de bL bM => ?_
     obtain ⟨rfl, df, dg⟩ := bL
     have bN : AtK _ bJ bK [sv aI.Name, sv aI.Text] := bM
     refine kg a (rv_fieldAddr ff141_0 rfl) (kgh a (rq_load1 tf9 rfl (bN 0 _ rfl)) (kg a (rv_fieldAddr ff141_0 rfl) (kgh a (rq_loadm1 tf9 rfl m0 rfl) (kg a (rv_sgeq rfl rfl) (kg c (rv_pick_t rfl a rfl) (kv (rv_pick_f rfl c rfl) (wq_nil ?_)))))))
     rintro dh ⟨bO, bP, bQ⟩
     obtain rfl := oi bI
     have bR := bP.sb (sd (sk sz))
     exact qd ⟨bO, rfl, bR, bQ⟩
    have aq := cond_f a ac
    refine kn a (kn a (kn a (kn a (kn a (kn a (kn a (kn a (kn a (kn a ?_)))))))))
    refine kg c (rv_pick_f (v := .bool false) rfl a rfl) (kv (rv_pick_f rfl c rfl) (wq_nil ?_))
    rintro di ⟨bS, bT, bU⟩
    obtain rfl := oi aq
    have bV := bT.sb (sd (sk sz))
    exact qd ⟨bS, rfl, bV, bU⟩
   rintro _ dj ⟨V, rfl, aJ, bW⟩
   refine qe_seq (wcc bs rfl (fun bX ar => ?_) (fun bX ar => ?_))
   ·refine sr (lv (rv_assign (v := .bool false) rfl) (nq (wc_ret (qe_block_ret (qe_then_ret (qe_then_ret ?_))))))
    obtain rfl := oi ar
    have bY := bc _ rfl
    subst bY
    refine qe_block_ret (qe_then_ret ?_)
    obtain rfl := oi aA
    refine qe_then_ret ?_
    obtain rfl := oi Z
    have bZ := aJ.sb (sd sz)
    exact er results88 ⟨rfl, trivial⟩ ⟨V, rfl, bZ⟩
   refine wc_skip (qe_block (qg (lv (rv_add_to rfl rfl (w64_succ hi54 (SliceAt.max (R.mono D)))) (mv rfl (wl_nil ?_)))))
   obtain rfl := oi ar
   exact qd ⟨_, rfl, V, rfl, aJ, (U.trans bW)⟩
  rintro aB _ ba b0 ⟨J, rfl, ab, U⟩
  subst b0
  refine sr (lv (rv_lss rfl rfl) (ns (wc_cond_f rfl (decide_eq_false (by omega)) (wc_exit (qe_then_exit (qe_then_exit (qe_block_eq ?_)))))))
  obtain rfl := oi aA
  exact qd ⟨_, J, rfl, rfl, ab, U⟩
 rintro _ dk ⟨az, I, rfl, rfl, aK, ad⟩
 have Z := elim_l Z
 refine qs (sr (fa ff71_2 rfl (lv (rv_loadm1 tf69 rfl m0 aK rfl) (lv (rv_len (t := tGAttr) underlying69 rfl (S.mono (D.trans ad))) (lv (rv_move (v := .int .i64 0) rfl) (nq ?_))))))
 obtain ⟨b1, b2, ae⟩ := ob Z
 refine wc_cutg (fun E' w' => ∃ aL af, b1 = .inl aL ∧ E' = [] ∧ SH w K [] w' af [] ∧ KLe I af) ?_ ?_
 ·refine wc_block ?_
  obtain ⟨dl, b3, aM⟩ := ob b2
  refine qf (fun (ag : Nat) (aN : Unit) E' w' => ∃ O, E' = [(1, pt f), (59, .slice x y A), (60, .int .i64 (p0_d.Nums.length : Int)), (61, .int .i64 ((ag : Nat) : Int))] ∧ SH w K [] w' O [obj f [.int .i64 p0_d.Id, .slice o q s, .slice x y A] 71] ∧ KLe I O) b3 ⟨I, rfl, aK, (KLe.refl _)⟩ ?_ ?_
  ·rintro ag aN _ b4 dm hi156 b5 b6 ⟨O, rfl, ah, W⟩
   refine sr (lv (rv_lss rfl rfl) (ns (wc_cond_t rfl (decide_eq_true (by omega)) (wc_skip (qe_seq (wc_seq (wc_block (sr (mv rfl ?_)))))))))
   obtain ⟨C, b7, b8⟩ := ob b5
   refine li underlying69 tf189 (S.mono ((D.trans ad).trans W)) b7 fun b9 ca dn cb cc => ?_
   obtain ⟨rfl, cd, ce⟩ := cb
   have cf : AtK _ b9 ca [sv C.Name, .int .i64 C.Num] := cc
   refine lv (rv_loadS (cs := [sv C.Name, .int .i64 C.Num]) tf189 rfl ah cf rfl) (al tf189 ah fun cg dp ch => ?_)
   have ci : SH _ _ _ _ _ [obj cg [sv [], .int .i64 0] 189, _] := ch
   refine av rfl (ls [sv C.Name, .int .i64 C.Num] (.agg #[sv C.Name, .int .i64 C.Num]) tf189 ci fun dq cj => (ns ?_))
   obtain ⟨ck, cl, cm⟩ := ob b8
   refine wc_cutg (fun E' w' => ∃ X, E' = [(1, pt f), (59, .slice x y A), (60, .int .i64 (p0_d.Nums.length : Int)), (61, .int .i64 ((ag : Nat) : Int)), (91, .bool ck)] ∧ SH w K [] w' X [obj f [.int .i64 p0_d.Id, .slice o q s, .slice x y A] 71] ∧ KLe O X) ?_ ?_
   ·refine wc_quiet mixed (by kernel_rfl) cj (kv (rv_fieldAddr ff189_0 rfl) (kh (rq_loadm1 tf9 rfl m0 rfl) ?_))
    obtain ⟨aO, cn, aP⟩ := ob cl
    refine wq_call (v := .bool aO) wn rfl (fun _ => rt_call (vs := [sv C.Name]) co56 rfl) (fun dr ⟨ds, aQ, cp⟩ => ((ok_impl_WordOk F) aQ.enter0 cd cn).mono fun e w' ⟨K', he, hS'⟩ => ⟨he, K', aQ.call0 hS', cp.trans hS'.le⟩) (kv (rv_not rfl) (km rfl ?_))
    rcases bool_tf ((!aO)) with m | m
    ·have au := cond_t m aP
     refine kn m (kn m (kn m (kn m (kv (rv_pick_t (v := .bool true) rfl m rfl) (km rfl (qv rfl rfl rfl rfl (qv rfl rfl rfl rfl (qv rfl rfl rfl rfl (ku ?_)))))))))
     refine ku (ku (ku (ku (ku (ku (ku (ku (ku (qv rfl rfl rfl rfl ?_)))))))))
     refine kv (rv_pick_t (v := .bool true) rfl rfl rfl) (wq_nil ?_)
     rintro dt ⟨cq, cr, ct⟩
     obtain rfl := oi au
     have cu := cr.sb (sd (sk sz))
     exact qd ⟨cq, rfl, cu, ct⟩
    have au := cond_f m aP
    refine kg m (rv_fieldAddr ff189_1 rfl) (kgh m (rq_loadm1 tf3 rfl m0 rfl) ?_)
    obtain ⟨aR, cv, aS⟩ := ob au
    refine wq_call (v := .bool aR) (wg rfl rfl m) rfl (fun _ => rt_call (vs := [.int .i64 C.Num, .int .i64 0, .int .i64 999999999]) co55 rfl) (fun du ⟨dv, aT, cw⟩ => ((ok_impl_within F) aT.enter0 ce (by decide : rng64 0) (by decide : rng64 999999999) cv).mono fun e w' ⟨K', he, hS'⟩ => ⟨he, K', aT.call0 hS', cw.trans hS'.le⟩) (kg m (rv_not rfl) (kv (rv_pick_f rfl m rfl) (km rfl ?_)))
    rcases bool_tf ((!aR)) with d | d
    ·have ai := cond_t d aS
     refine kn d (kn d (kn d (ku (ku (ku (ku (ku (ku (ku ?_)))))))))
     refine ku (ku (ku (kn d (kv (rv_pick_t (v := .bool true) rfl d rfl) (wq_nil ?_)))))
     rintro dw ⟨cx, cy, cz⟩
     obtain rfl := oi ai
     have cA := cy.sb (sd (sk sz))
     exact qd ⟨cx, rfl, cA, cz⟩
    have ai := cond_f d aS
    refine kg d (rv_move rfl) (kg d (rv_gtr rfl rfl) (kg d (rv_move rfl) ?_))
    rcases bool_tf (decide ((0 : Int) < ((ag : Nat) : Int))) with b | b
    ·have aw := cond_t b ai
     refine kg b (rv_fieldAddr ff71_2 rfl) (kgh b (rq_loadm1 tf69 rfl m1 rfl) (kg b (rv_move rfl) (kg b (rv_sub rfl rfl) ?_)))
     obtain ⟨aU, cB, cC⟩ := ob aw
     refine wq_indexAddr (t := tGAttr) (wg rfl rfl b) rfl underlying69 tf189 rfl rfl (S.mono ((D.trans ad).trans W)) cB fun cD cE dx cF cG => ?_
     obtain ⟨rfl, dy, dz⟩ := cF
     have cH : AtK _ cD cE [sv aU.Name, .int .i64 aU.Num] := cG
     refine kg b (rv_fieldAddr ff189_0 rfl) (kgh b (rq_load1 tf9 rfl (cH 0 _ rfl)) (kg b (rv_fieldAddr ff189_0 rfl) (kgh b (rq_loadm1 tf9 rfl m0 rfl) (kg b (rv_sgeq rfl rfl) (kg d (rv_pick_t rfl b rfl) (kv (rv_pick_f rfl d rfl) (wq_nil ?_)))))))
     rintro dA ⟨cI, cJ, cK⟩
     obtain rfl := oi cC
     have cL := cJ.sb (sd (sk sz))
     exact qd ⟨cI, rfl, cL, cK⟩
    have aw := cond_f b ai
    refine kn b (kn b (kn b (kn b (kn b (kn b (kn b (kn b (kn b (kn b ?_)))))))))
    refine kg d (rv_pick_f (v := .bool false) rfl b rfl) (kv (rv_pick_f rfl d rfl) (wq_nil ?_))
    rintro dB ⟨cM, cN, cO⟩
    obtain rfl := oi aw
    have cP := cN.sb (sd (sk sz))
    exact qd ⟨cM, rfl, cP, cO⟩
   rintro _ dC ⟨X, rfl, aV, cQ⟩
   refine qe_seq (wcc cm rfl (fun cR ax => ?_) (fun cR ax => ?_))
   ·refine sr (lv (rv_assign (v := .bool false) rfl) (nq (wc_ret (qe_block_ret (qe_then_ret (qe_then_ret ?_))))))
    obtain rfl := oi ax
    have cS := b6 _ rfl
    subst cS
    refine qe_block_ret (qe_then_ret ?_)
    obtain rfl := oi aM
    refine qe_then_ret ?_
    obtain rfl := oi ae
    have cT := aV.sb (sd sz)
    exact er results88 ⟨rfl, trivial⟩ ⟨X, rfl, cT⟩
   refine wc_skip (qe_block (qg (lv (rv_add_to rfl rfl (w64_succ hi156 (SliceAt.max (S.mono (D.trans ad))))) (mv rfl (wl_nil ?_)))))
   obtain rfl := oi ax
   exact qd ⟨_, rfl, X, rfl, aV, (W.trans cQ)⟩
  rintro aN _ b4 cU ⟨O, rfl, ah, W⟩
  subst cU
  refine sr (lv (rv_lss rfl rfl) (ns (wc_cond_f rfl (decide_eq_false (by omega)) (wc_exit (qe_then_exit (qe_then_exit (qe_block_eq ?_)))))))
  obtain rfl := oi aM
  have cV := ah.sb (sd sz)
  exact qe_mid' ⟨_, O, rfl, rfl, cV, W⟩ trivial
 rintro _ dD ⟨aL, af, rfl, rfl, cW, dE⟩
 have ae := elim_l ae
 refine qr (lv (rv_assign (v := .bool true) rfl) (nq (wc_ret ?_)))
 obtain rfl := oi ae
 exact er results88 ⟨rfl, trivial⟩ ⟨af, rfl, cW⟩

set_option maxHeartbeats 2000000 in
theorem ok_impl_DocsOk (F : Nat) {w : World} {K : KMap} {c : Option Addr} {d f : Nat} {p0_list : List GDoc} {r : Bool} (hS : SH w K [] w K []) (y : SliceAt tGDoc K c d f p0_list) (hm : M.impl_DocsOk F p0_list = some r) :
  Calls Tryz.prog 40 #[.slice c d f] w fun e w' => ∃ K', e = .returned (.bool r) ∧ SH w K [] w' K' [] := by
 rw [M.impl_DocsOk] at hm
 refine calls_in func40 rfl ntmps40 rfl (sr (lv (rv_assign (v := .bool false) rfl) (nsr (mv rfl (lv (rv_len (t := tGDoc) underlying27 rfl y) (lv (rv_move (v := .int .i64 0) rfl) (nq ?_)))))))
 obtain ⟨Z, h6, C⟩ := ob hm
 refine wc_cutg (fun E' w' => ∃ S D, Z = .inl S ∧ E' = [(0, .slice c d f)] ∧ SH w K [] w' D [] ∧ KLe K D) ?_ ?_
 ·refine wc_block ?_
  obtain ⟨a8, ab, T⟩ := ob h6
  refine qf (fun (G : Nat) (U : Unit) E' w' => ∃ i, E' = [(0, .slice c d f), (5, .slice c d f), (6, .int .i64 (p0_list.length : Int)), (7, .int .i64 ((G : Nat) : Int))] ∧ SH w K [] w' i [] ∧ KLe K i) ab ⟨K, rfl, hS, (KLe.refl _)⟩ ?_ ?_
  ·rintro G U _ ac a9 hi23 ad ae ⟨i, rfl, H, A⟩
   refine sr (lv (rv_lss rfl rfl) (ns (wc_cond_t rfl (decide_eq_true (by omega)) (wc_skip (qe_seq (wc_seq (wc_block (sr (mv rfl ?_)))))))))
   obtain ⟨k, af, ag⟩ := ob ad
   refine li underlying27 tf71 (y.mono A) af fun ah ai ba aj ak => ?_
   obtain ⟨l, m, o, q, s, x, rfl, am, an, ao⟩ := aj
   have ap : AtK _ ah ai [.int .i64 k.Id, .slice l m o, .slice q s x] := ak
   refine lv (rv_loadS (cs := [.int .i64 k.Id, .slice l m o, .slice q s x]) tf71 rfl H ap rfl) (al tf71 H fun aq bb ar => ?_)
   have au : SH _ _ _ _ _ [obj aq [.int .i64 0, .slice none 0 0, .slice none 0 0] 71] := ar
   refine av rfl (ls [.int .i64 k.Id, .slice l m o, .slice q s x] (.agg #[.int .i64 k.Id, .slice l m o, .slice q s x]) tf71 au fun bc aw => (ns ?_))
   obtain ⟨ax, ay, az⟩ := ob ag
   refine wc_cutg (fun E' w' => ∃ B, E' = [(0, .slice c d f), (5, .slice c d f), (6, .int .i64 (p0_list.length : Int)), (7, .int .i64 ((G : Nat) : Int)), (29, .bool ax)] ∧ SH w K [] w' B [] ∧ KLe i B) ?_ ?_
   ·refine wc_quiet mixed (by kernel_rfl) aw (kh (rq_loadmS (ds := [.int .i64 k.Id, .slice l m o, .slice q s x]) tf71 rfl m0 rfl rfl) ?_)
    obtain ⟨V, aA, W⟩ := ob ay
    refine wq_call (v := .bool V) wn rfl (fun _ => rt_call (vs := [.agg #[.int .i64 k.Id, .slice l m o, .slice q s x]]) co88 rfl) (fun bd ⟨be, X, J⟩ => ((ok_impl_DocOk F) X.enter0 am (an.mono J) (ao.mono J) aA).mono fun e w' ⟨K', he, hS'⟩ => ⟨he, K', X.call0 hS', J.trans hS'.le⟩) (kv (rv_not rfl) (km rfl ?_))
    rcases bool_tf ((!V)) with b | b
    ·have I := cond_t b W
     refine kn b (kn b (kn b (ku (ku (ku (ku (ku (ku (ku ?_)))))))))
     refine ku (ku (kn b (kv (rv_pick_t (v := .bool true) rfl b rfl) (wq_nil ?_))))
     rintro bf ⟨aB, aC, aD⟩
     obtain rfl := oi I
     have aE := aC.sb (sd sz)
     exact qd ⟨aB, rfl, aE, aD⟩
    have I := cond_f b W
    refine kg b (rv_move rfl) (kg b (rv_gtr rfl rfl) (kg b (rv_move rfl) ?_))
    rcases bool_tf (decide ((0 : Int) < ((G : Nat) : Int))) with a | a
    ·have O := cond_t a I
     refine kg a (rv_move rfl) (kg a (rv_move rfl) (kg a (rv_sub rfl rfl) ?_))
     obtain ⟨aF, aG, aH⟩ := ob O
     refine wq_indexAddr (t := tGDoc) (wg rfl rfl a) rfl underlying27 tf71 rfl rfl (y.mono A) aG fun aI aJ bg aK aL => ?_
     obtain ⟨aM, aN, aO, aP, aQ, aR, rfl, bh, bi, bj⟩ := aK
     have aS : AtK _ aI aJ [.int .i64 aF.Id, .slice aM aN aO, .slice aP aQ aR] := aL
     refine kg a (rv_fieldAddr ff71_0 rfl) (kgh a (rq_load1 tf3 rfl (aS 0 _ rfl)) (kg a (rv_fieldAddr ff71_0 rfl) (kgh a (rq_loadm1 tf3 rfl m0 rfl) (kg a (rv_geq rfl rfl) (kg b (rv_pick_t rfl a rfl) (kv (rv_pick_f rfl b rfl) (wq_nil ?_)))))))
     rintro bk ⟨aT, aU, aV⟩
     obtain rfl := oi aH
     have aW := aU.sb (sd sz)
     exact qd ⟨aT, rfl, aW, aV⟩
    have O := cond_f a I
    refine kn a (kn a (kn a (kn a (kn a (kn a (kn a (kn a (kn a (kg b (rv_pick_f (v := .bool false) rfl a rfl) ?_)))))))))
    refine kv (rv_pick_f rfl b rfl) (wq_nil ?_)
    rintro bl ⟨aX, aY, aZ⟩
    obtain rfl := oi O
    have a0 := aY.sb (sd sz)
    exact qd ⟨aX, rfl, a0, aZ⟩
   rintro _ bm ⟨B, rfl, Y, a2⟩
   refine qe_seq (wcc az rfl (fun a3 R => ?_) (fun a3 R => ?_))
   ·refine sr (lv (rv_assign (v := .bool false) rfl) (nq (wc_ret (qe_block_ret (qe_then_ret (qe_then_ret ?_))))))
    obtain rfl := oi R
    have a4 := ae _ rfl
    subst a4
    refine qe_block_ret (qe_then_ret ?_)
    obtain rfl := oi T
    refine qe_then_ret ?_
    obtain rfl := oi C
    exact er results40 ⟨rfl, trivial⟩ ⟨B, rfl, Y⟩
   refine wc_skip (qe_block (qg (lv (rv_add_to rfl rfl (w64_succ hi23 (SliceAt.max y))) (mv rfl (wl_nil ?_)))))
   obtain rfl := oi R
   exact qd ⟨_, rfl, B, rfl, Y, (A.trans a2)⟩
  rintro U _ ac a5 ⟨i, rfl, H, A⟩
  subst a5
  refine sr (lv (rv_lss rfl rfl) (ns (wc_cond_f rfl (decide_eq_false (by omega)) (wc_exit (qe_then_exit (qe_then_exit (qe_block_eq ?_)))))))
  obtain rfl := oi T
  exact qd ⟨_, i, rfl, rfl, H, A⟩
 rintro _ bn ⟨S, D, rfl, rfl, a6, a7⟩
 have C := elim_l C
 refine qr (mv rfl (lv (rv_len (t := tGDoc) underlying27 rfl (y.mono a7)) (lv (rv_leq rfl rfl) (av rfl (nq (wc_ret ?_))))))
 obtain rfl := oi C
 exact er results40 ⟨rfl, trivial⟩ ⟨D, rfl, a6⟩

theorem ok_impl_cloneDoc (F : Nat) {w : World} {K : KMap} {m : Option Addr} {o q : Nat} {s : Option Addr} {v x : Nat} {p0_d : GDoc} {r : GDoc} (hS : SH w K [] w K []) (ap : rng64 p0_d.Id) (aq : SliceAt tGField K m o q p0_d.Fields) (ar : SliceAt tGAttr K s v x p0_d.Nums) (hm : M.impl_cloneDoc F p0_d = some r) :
  Calls Tryz.prog 111 #[.agg #[.int .i64 p0_d.Id, .slice m o q, .slice s v x]] w fun e w' => ∃ a_2 n_3 c_4 a_6 n_7 c_8 K', e = .returned (.agg #[.int .i64 r.Id, .slice a_2 n_3 c_4, .slice a_6 n_7 c_8]) ∧ SH w K [] w' K' [tail (.slice a_2 n_3 c_4) 141 2, tail (.slice a_6 n_7 c_8) 189 2] ∧ rng64 r.Id ∧ SliceAt tGField K' a_2 n_3 c_4 r.Fields ∧ SliceAt tGAttr K' a_6 n_7 c_8 r.Nums := by
 rw [M.impl_cloneDoc] at hm
 refine calls_in func111 rfl ntmps111 rfl (sr (bx rfl hS fun D a3 aG => ?_))
 have aH : SH _ _ _ _ _ [obj D [.int .i64 p0_d.Id, .slice m o q, .slice s v x] 71] := aG
 refine al tf71 aH fun aI a4 aJ => ?_
 have aK : SH _ _ _ _ _ [obj aI [.int .i64 0, .slice none 0 0, .slice none 0 0] 71, _] := aJ
 refine ns ?_
 obtain ⟨a5, au, aL⟩ := ob hm
 obtain ⟨a7, aw, ax⟩ := ob aL
 refine wc_held (fun w' => Holds K w' ∧ HasObj D [.int .i64 p0_d.Id, .slice m o q, .slice s v x] w') (fun w' => True) 12 [] mixed ?_
 have b := aK.drew
 refine wg_val (i := 0) (listed' := #[true, false, false, false, false, false, false, false, false, false, false, false]) (fun _ => True) rfl (by kernel_rfl) (pk_then pk_body) (by kernel_rfl) rfl (by kernel_rfl) (by kernel_rfl) rfl (.inl fun _ _ => trivial) ⟨⟨b.hasK (KLe.refl _), b.hasObj m1⟩, (fun _ => trivial), by decide⟩ wn rfl (fun _ _ => (rv_fieldAddr ff71_0 rfl)) (wg_val (i := 1) (listed' := #[true, true, false, false, false, false, false, false, false, false, false, false]) (HasObj D [.int .i64 p0_d.Id, .slice m o q, .slice s v x]) rfl (by kernel_rfl) (pk_then pk_body) (by kernel_rfl) rfl (by kernel_rfl) (by kernel_rfl) rfl (.inl fun _ h => h.2) ⟨⟨b.hasK (KLe.refl _), b.hasObj m1⟩, (fun _ => trivial), by decide⟩ wn rfl (fun _ h => rh_loadm1 tf3 rfl rfl h) (wg_val (i := 3) (listed' := #[true, true, false, true, false, false, false, false, false, false, false, false]) (fun _ => True) rfl (by kernel_rfl) (pk_then pk_body) (by kernel_rfl) rfl (by kernel_rfl) (by kernel_rfl) rfl (.inl fun _ _ => trivial) ⟨⟨b.hasK (KLe.refl _), b.hasObj m1⟩, (fun _ => trivial), by decide⟩ wn rfl (fun _ _ => (rv_fieldAddr ff71_1 rfl)) ?_))
 refine wg_val (i := 4) (listed' := #[true, true, false, true, true, false, false, false, false, false, false, false]) (HasObj D [.int .i64 p0_d.Id, .slice m o q, .slice s v x]) rfl (by kernel_rfl) (pk_then pk_body) (by kernel_rfl) rfl (by kernel_rfl) (by kernel_rfl) rfl (.inl fun _ h => h.2) ⟨⟨b.hasK (KLe.refl _), b.hasObj m1⟩, (fun _ => trivial), by decide⟩ wn rfl (fun _ h => rh_loadm1 tf68 rfl rfl h) (wg_val (i := 7) (listed' := #[true, true, false, true, true, false, false, true, false, false, false, false]) (fun _ => True) rfl (by kernel_rfl) (pk_then pk_body) (by kernel_rfl) rfl (by kernel_rfl) (by kernel_rfl) rfl (.inl fun _ _ => trivial) ⟨⟨b.hasK (KLe.refl _), b.hasObj m1⟩, (fun _ => trivial), by decide⟩ wn rfl (fun _ _ => (rv_fieldAddr ff71_2 rfl)) (wg_val (i := 8) (listed' := #[true, true, false, true, true, false, false, true, true, false, false, false]) (HasObj D [.int .i64 p0_d.Id, .slice m o q, .slice s v x]) rfl (by kernel_rfl) (pk_then pk_body) (by kernel_rfl) rfl (by kernel_rfl) (by kernel_rfl) rfl (.inl fun _ h => h.2) ⟨⟨b.hasK (KLe.refl _), b.hasObj m1⟩, (fun _ => trivial), by decide⟩ wn rfl (fun _ h => rh_loadm1 tf69 rfl rfl h) (wg_many (l := [2, 6]) (by kernel_rfl) rfl ⟨⟨_, rfl, ?_⟩, ⟨_, rfl, ?_⟩, trivial⟩)))
 ·refine b0 tGField underlying68 tf141 b fun a8 a9 ba a aF ah => (wl_nil (qe_held (listed' := #[true, true, true, true, true, false, false, true, true, false, false, false]) rfl ⟨⟨ah.hasK a, ah.hasObj m2⟩, (fun _ => trivial), by decide⟩ (wg_many (l := [5, 6]) (by kernel_rfl) rfl ⟨⟨_, rfl, ?_⟩, ⟨_, rfl, ?_⟩, trivial⟩)))
  ·refine lp underlying68 tf141 aF (aq.mono a) au ah fun G H I bb bc y aM ay => (wl_nil (qe_held (listed' := #[true, true, true, true, true, true, false, true, true, false, false, false]) rfl ⟨⟨ay.hasK (a.trans y), ay.hasObj m2⟩, (fun _ => trivial), by decide⟩ (wg_one (i := 6) (by kernel_rfl) rfl (b0 tGAttr underlying69 tf189 ay fun bd be bf A aN az => (wl_nil (qe_held (listed' := #[true, true, true, true, true, true, true, true, true, false, false, false]) rfl ⟨⟨az.hasK ((a.trans y).trans A), az.hasObj m3⟩, (fun _ => trivial), by decide⟩ (wg_one (i := 9) (by kernel_rfl) rfl (lp underlying69 tf189 aN (ar.mono ((a.trans y).trans A)) aw az fun J O R bg aO ai aP S => (wl_nil (qe_held (listed' := #[true, true, true, true, true, true, true, true, true, true, false, false]) rfl ⟨⟨S.hasK (((a.trans y).trans A).trans ai), S.hasObj m3⟩, (fun _ => trivial), by decide⟩ ?_))))))))))
   refine wg_val (i := 10) (listed' := #[true, true, true, true, true, true, true, true, true, true, true, false]) (fun _ => True) rfl (by kernel_rfl) (pk_then pk_body) (by kernel_rfl) rfl (by kernel_rfl) (by kernel_rfl) rfl (.inl fun _ _ => trivial) ⟨⟨S.hasK (((a.trans y).trans A).trans ai), S.hasObj m3⟩, (fun _ => trivial), by decide⟩ wn rfl (fun _ _ => (rv_build (cs := #[.int .i64 p0_d.Id, .slice G H I, .slice J O R]) sp71 tf71 rfl (by kernel_rfl))) (wg_one (i := 11) (by kernel_rfl) rfl (ls [.int .i64 p0_d.Id, .slice G H I, .slice J O R] (.agg #[.int .i64 p0_d.Id, .slice G H I, .slice J O R]) tf71 S.f2 fun bh aj => (wl_nil (qe_held (listed' := #[true, true, true, true, true, true, true, true, true, true, true, true]) rfl ⟨⟨aj.hasK (((a.trans y).trans A).trans ai), aj.hasObj m3⟩, (fun _ => trivial), by decide⟩ (wg_done (by kernel_rfl) (qe_seq (wc_ret ?_)))))))
   obtain rfl := oi ax
   have aQ := aj.f1.f2.sb (sk (sk (sd (sd sz))))
   exact qe_ret (vs := [_]) results111 ⟨⟨_, _, rfl, run_loadVar_at tf71 (cs := [.int .i64 p0_d.Id, .slice G H I, .slice J O R]) (fun j c e => by rw [Nat.zero_add, aj.mem_obj m0]; exact e) (.inl ⟨rfl, rfl, rfl⟩)⟩, trivial⟩ ⟨G, H, I, J, O, R, aO, rfl, aQ, ap, (aM.mono (A.trans ai)), aP⟩
  refine b0 tGAttr underlying69 tf189 ah fun bi bj bk d aR aA => (wl_nil (qe_held (listed' := #[true, true, true, true, true, false, true, true, true, false, false, false]) rfl ⟨⟨aA.hasK (a.trans d), aA.hasObj m3⟩, (fun _ => trivial), by decide⟩ (wg_one (i := 5) (by kernel_rfl) rfl (lp underlying68 tf141 (aF.mono d) (aq.mono (a.trans d)) au aA.f1 fun T U V bl bm B aS aB => (wl_nil (qe_held (listed' := #[true, true, true, true, true, true, true, true, true, false, false, false]) rfl ⟨⟨aB.hasK ((a.trans d).trans B), aB.hasObj m3⟩, (fun _ => trivial), by decide⟩ (wg_one (i := 9) (by kernel_rfl) rfl (lp underlying69 tf189 (aR.mono B) (ar.mono ((a.trans d).trans B)) aw aB.f1 fun W X Y bn aT ak aU Z => (wl_nil (qe_held (listed' := #[true, true, true, true, true, true, true, true, true, true, false, false]) rfl ⟨⟨Z.hasK (((a.trans d).trans B).trans ak), Z.hasObj m3⟩, (fun _ => trivial), by decide⟩ ?_))))))))))
  refine wg_val (i := 10) (listed' := #[true, true, true, true, true, true, true, true, true, true, true, false]) (fun _ => True) rfl (by kernel_rfl) (pk_then pk_body) (by kernel_rfl) rfl (by kernel_rfl) (by kernel_rfl) rfl (.inl fun _ _ => trivial) ⟨⟨Z.hasK (((a.trans d).trans B).trans ak), Z.hasObj m3⟩, (fun _ => trivial), by decide⟩ wn rfl (fun _ _ => (rv_build (cs := #[.int .i64 p0_d.Id, .slice T U V, .slice W X Y]) sp71 tf71 rfl (by kernel_rfl))) (wg_one (i := 11) (by kernel_rfl) rfl (ls [.int .i64 p0_d.Id, .slice T U V, .slice W X Y] (.agg #[.int .i64 p0_d.Id, .slice T U V, .slice W X Y]) tf71 Z.f2 fun bo am => (wl_nil (qe_held (listed' := #[true, true, true, true, true, true, true, true, true, true, true, true]) rfl ⟨⟨am.hasK (((a.trans d).trans B).trans ak), am.hasObj m3⟩, (fun _ => trivial), by decide⟩ (wg_done (by kernel_rfl) (qe_seq (wc_ret ?_)))))))
  obtain rfl := oi ax
  have aV := am.f1.f2.sb (sk (sk (sd (sd sz))))
  exact qe_ret (vs := [_]) results111 ⟨⟨_, _, rfl, run_loadVar_at tf71 (cs := [.int .i64 p0_d.Id, .slice T U V, .slice W X Y]) (fun j c e => by rw [Nat.zero_add, am.mem_obj m0]; exact e) (.inl ⟨rfl, rfl, rfl⟩)⟩, trivial⟩ ⟨T, U, V, W, X, Y, aT, rfl, aV, ap, (aS.mono ak), aU⟩
 refine b0 tGAttr underlying69 tf189 b fun bp bq br f aW aC => (wl_nil (qe_held (listed' := #[true, true, false, true, true, false, true, true, true, false, false, false]) rfl ⟨⟨aC.hasK f, aC.hasObj m2⟩, (fun _ => trivial), by decide⟩ (wg_one (i := 2) (by kernel_rfl) rfl (b0 tGField underlying68 tf141 aC fun bs bt bu k aX aD => (wl_nil (qe_held (listed' := #[true, true, true, true, true, false, true, true, true, false, false, false]) rfl ⟨⟨aD.hasK (f.trans k), aD.hasObj m3⟩, (fun _ => trivial), by decide⟩ (wg_one (i := 5) (by kernel_rfl) rfl (lp underlying68 tf141 aX (aq.mono (f.trans k)) au aD fun aa ab ac bv bw C aY aE => (wl_nil (qe_held (listed' := #[true, true, true, true, true, true, true, true, true, false, false, false]) rfl ⟨⟨aE.hasK ((f.trans k).trans C), aE.hasObj m3⟩, (fun _ => trivial), by decide⟩ (wg_one (i := 9) (by kernel_rfl) rfl (lp underlying69 tf189 (aW.mono (k.trans C)) (ar.mono ((f.trans k).trans C)) aw aE.f1 fun ad ae af bz aZ an a0 ag => ?_))))))))))))
 refine wl_nil (qe_held (listed' := #[true, true, true, true, true, true, true, true, true, true, false, false]) rfl ⟨⟨ag.hasK (((f.trans k).trans C).trans an), ag.hasObj m3⟩, (fun _ => trivial), by decide⟩ (wg_val (i := 10) (listed' := #[true, true, true, true, true, true, true, true, true, true, true, false]) (fun _ => True) rfl (by kernel_rfl) (pk_then pk_body) (by kernel_rfl) rfl (by kernel_rfl) (by kernel_rfl) rfl (.inl fun _ _ => trivial) ⟨⟨ag.hasK (((f.trans k).trans C).trans an), ag.hasObj m3⟩, (fun _ => trivial), by decide⟩ wn rfl (fun _ _ => (rv_build (cs := #[.int .i64 p0_d.Id, .slice aa ab ac, .slice ad ae af]) sp71 tf71 rfl (by kernel_rfl))) (wg_one (i := 11) (by kernel_rfl) rfl (ls [.int .i64 p0_d.Id, .slice aa ab ac, .slice ad ae af] (.agg #[.int .i64 p0_d.Id, .slice aa ab ac, .slice ad ae af]) tf71 ag.f2 fun bA ao => (wl_nil (qe_held (listed' := #[true, true, true, true, true, true, true, true, true, true, true, true]) rfl ⟨⟨ao.hasK (((f.trans k).trans C).trans an), ao.hasObj m3⟩, (fun _ => trivial), by decide⟩ (wg_done (by kernel_rfl) (qe_seq (wc_ret ?_)))))))))
 obtain rfl := oi ax
 have a1 := ao.f1.f2.sb (sk (sk (sd (sd sz))))
 exact qe_ret (vs := [_]) results111 ⟨⟨_, _, rfl, run_loadVar_at tf71 (cs := [.int .i64 p0_d.Id, .slice aa ab ac, .slice ad ae af]) (fun j c e => by rw [Nat.zero_add, ao.mem_obj m0]; exact e) (.inl ⟨rfl, rfl, rfl⟩)⟩, trivial⟩ ⟨aa, ab, ac, ad, ae, af, aZ, rfl, a1, ap, (aY.mono an), a0⟩

theorem ok_impl_cloneDocs (F : Nat) {w : World} {K : KMap} {D : Option Addr} {G H : Nat} {p0_list : List GDoc} {r : (List GDoc)} (hS : SH w K [] w K []) (I : SliceAt tGDoc K D G H p0_list) (hm : M.impl_cloneDocs F p0_list = some r) :
  Calls Tryz.prog 61 #[.slice D G H] w fun e w' => ∃ a_1 n_2 c_3 K', e = .returned (.slice a_1 n_2 c_3) ∧ SH w K [] w' K' [tail (.slice a_1 n_2 c_3) 71 3] ∧ SliceAt tGDoc K' a_1 n_2 c_3 r := by
 rw [M.impl_cloneDocs] at hm
 refine calls_in func61 rfl ntmps61 rfl (sr (lv (rv_assign (v := .slice none 0 0) rfl) (nr (b0 tGDoc underlying27 tf71 hS fun a5 w6 J O af ag => (av rfl (nsr (mv rfl (lv (rv_len (t := tGDoc) underlying27 rfl (I.mono O)) (lv (rv_move (v := .int .i64 0) rfl) ?_)))))))))
 refine nq ?_
 obtain ⟨ah, ai, aj⟩ := ob hm
 refine wc_cutg (fun E' w' => ∃ s x y A, E' = [(3, .slice s x y)] ∧ SH w K [] w' A [tail (.slice s x y) 71 3] ∧ KLe J A ∧ SliceAt tGDoc A s x y ah) ?_ ?_
 ·refine wc_block ?_
  obtain ⟨a2, ak, am⟩ := ob ai
  refine qF (fun (ac : Nat) (R : (List GDoc)) E' w' => ∃ a b c d, E' = [(3, .slice a b c), (7, .slice D G H), (8, .int .i64 (p0_list.length : Int)), (9, .int .i64 ((ac : Nat) : Int))] ∧ SH w K [] w' d [tail (.slice a b c) 71 3] ∧ KLe J d ∧ SliceAt tGDoc d a b c R) ak ⟨a5, 0, 0, J, rfl, ag, (KLe.refl _), af⟩ ?_ ?_
  ·rintro ac R _ an a3 hi36 ao ⟨a, b, c, d, rfl, B, C, S⟩
   refine sr (lv (rv_lss rfl rfl) (ns (wc_cond_t rfl (decide_eq_true (by omega)) (wc_skip (qe_seq (wc_seq (wc_block (sr ?_))))))))
   obtain ⟨f, ap, aq⟩ := ob ao
   refine li underlying27 tf71 (I.mono (O.trans C)) ap fun ar au a4 aw ax => ?_
   obtain ⟨i, k, l, m, o, q, rfl, ay, az, aA⟩ := aw
   have aB : AtK _ ar au [.int .i64 f.Id, .slice i k l, .slice m o q] := ax
   refine lv (rv_loadS (cs := [.int .i64 f.Id, .slice i k l, .slice m o q]) tf71 rfl B aB rfl) (al tf71 B fun aC a6 aD => ?_)
   have aE : SH _ _ _ _ _ [obj aC [.int .i64 0, .slice none 0 0, .slice none 0 0] 71, _] := aD
   refine ls [.int .i64 f.Id, .slice i k l, .slice m o q] (.agg #[.int .i64 f.Id, .slice i k l, .slice m o q]) tf71 aE fun a7 T => (nq (wc_region (mv rfl (lv (rv_loadmS (ds := [.int .i64 f.Id, .slice i k l, .slice m o q]) tf71 rfl m0 T rfl rfl) ?_))))
   obtain ⟨U, aF, aG⟩ := ob aq
   refine lc (vs := [.agg #[.int .i64 f.Id, .slice i k l, .slice m o q]]) co111 ((ok_impl_cloneDoc F) T.enter0 ay az aA aF) ?_
   rintro a8 a9 ⟨V, W, X, Y, Z, aa, ba, rfl, ab, aH, aI, aJ⟩
   refine ⟨_, rfl, ?_⟩
   have aK := (T.c0 ab).t4
   refine lb tGDoc (.agg #[.int .i64 U.Id, .slice V W X, .slice Y Z aa]) [.int .i64 U.Id, .slice V W X, .slice Y Z aa] U underlying27 tf71 ⟨V, W, X, Y, Z, aa, rfl, aH, aI, aJ⟩ aK fun bb bc bd ad aL aM => ?_
   obtain ⟨be, aN, aO⟩ := ob aG
   refine lp underlying27 tf71 (S.mono (ab.le.trans ad)) aL aN aM.f4 fun aP aQ aR bf aS aT aU aV => (av rfl (nb (qg (lv (rv_add_to rfl rfl (w64_succ hi36 (SliceAt.max (I.mono O)))) (mv rfl (wl_nil ?_))))))
   obtain rfl := oi aO
   have aW := aV.sb (sk (sd (sd (sd (sd sz)))))
   exact qd ⟨aP, aQ, aR, aS, rfl, aW, (((C.trans ab.le).trans ad).trans aT), aU⟩
  rintro R _ an aX ⟨a, b, c, d, rfl, B, C, S⟩
  subst aX
  refine sr (lv (rv_lss rfl rfl) (ns (wc_cond_f rfl (decide_eq_false (by omega)) (wc_exit (qe_then_exit (qe_then_exit (qe_block_eq ?_)))))))
  obtain rfl := oi am
  exact qd ⟨a, b, c, d, rfl, B, C, S⟩
 rintro _ bg ⟨s, x, y, A, rfl, aY, bh, aZ⟩
 refine qr (mv rfl (av rfl (nq (wc_ret ?_))))
 obtain rfl := oi aj
 exact er results61 ⟨rfl, trivial⟩ ⟨s, x, y, A, rfl, aY, aZ⟩

theorem ok_impl_lower (F : Nat) {w : World} {K : KMap} {p0_b : UInt8} {r : UInt8} (hS : SH w K [] w K []) (hm : M.impl_lower F p0_b = some r) :
  Calls Tryz.prog 164 #[iv8 p0_b] w fun e w' => ∃ K', e = .returned (iv8 r) ∧ SH w K [] w' K' [] := by
 rw [M.impl_lower] at hm
 refine calls_in func164 rfl ntmps164 rfl (sr (lv (rv_assign (v := iv8 0) rfl) (ns (wc_seq ?_))))
 obtain ⟨l, i, m⟩ := ob hm
 refine wc_cutg (fun E' w' => ∃ c, E' = [(0, iv8 p0_b), (8, .bool l)] ∧ SH w K [] w' c [] ∧ KLe K c) ?_ ?_
 ·refine wc_region (mv rfl (lv (rv_bge (b := (65 : UInt8)) rfl rfl) (mv rfl ?_)))
  rcases bool_tf (decide ((65 : UInt8) ≤ p0_b)) with a | a
  ·have d := cond_t a i
   refine lg a (rv_move rfl) (lg a (rv_ble (b := (90 : UInt8)) rfl rfl) (lv (rv_pick_t rfl a rfl) (wl_nil ?_)))
   obtain rfl := oi d
   exact qd ⟨K, rfl, hS, (KLe.refl _)⟩
  have d := cond_f a i
  refine lu a (lu a (lv (rv_pick_f (v := .bool false) rfl a rfl) (wl_nil ?_)))
  obtain rfl := oi d
  exact qd ⟨K, rfl, hS, (KLe.refl _)⟩
 rintro _ q ⟨c, rfl, k, s⟩
 refine qe_seq (wcc m rfl (fun o f => ?_) (fun o f => ?_))
 ·refine sr (mv rfl (lv (rv_badd (b := (97 : UInt8)) rfl rfl) (lv (rv_bsub (b := (65 : UInt8)) rfl rfl) (av rfl (nq (rr ?_))))))
  obtain rfl := oi f
  exact er results164 ⟨rfl, trivial⟩ ⟨c, rfl, k⟩
 refine wc_skip (qr (mv rfl (av rfl (nq (wc_ret ?_)))))
 obtain rfl := oi f
 exact er results164 ⟨rfl, trivial⟩ ⟨c, rfl, k⟩
end Go.Proofs.YtoeajphlomankaaGreatDoor
