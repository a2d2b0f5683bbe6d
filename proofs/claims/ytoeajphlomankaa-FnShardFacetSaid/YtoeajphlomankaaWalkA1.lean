/-
 Walks of the functions. Printed by gen.py.
-/
import Derived.Test.YtoeajphlomankaaWalkA0
set_option linter.unusedVariables false
set_option maxRecDepth 100000
namespace Go.Proofs.Ytoeajphlomankaa
open Go Go.Fk Go.RowKit

theorem ok_impl_TextOk (F : Nat) {w : World} {K : KMap} {p0_s : Str} {r : Bool} (hS : SH w K [] w K []) (C : p0_s.length ≤ maxLen) (hm : M.impl_TextOk F p0_s = some r) :
  Calls Try.prog 42 #[sv p0_s] w fun e w' => ∃ (K' : KMap), e = .returned (.bool r) ∧ SH w K [] w' K' [] := by
 rw [M.impl_TextOk] at hm
 refine calls_in Try.func42 rfl Try.ntmps42 rfl (sr (lv (rv_assign (v := .bool false) rfl) (nsr (mv rfl (lv (rv_slen Try.underlying9 rfl) (lv (rv_move (v := .int .i64 0) rfl) (nq ?_)))))))
 obtain ⟨D, G, q⟩ := ob hm
 refine wc_cutg (fun E' w' => ∃ s f, D = .inl s ∧ E' = [(0, sv p0_s)] ∧ SH w K [] w' f [] ∧ KLe K f) ?_ ?_
 ·refine wc_block ?_
  obtain ⟨ad, H, x⟩ := ob G
  refine qf (fun (k : Nat) (y : Unit) E' w' => ∃ c, E' = [(0, sv p0_s), (5, .int .i64 (p0_s.length : Int)), (6, .int .i64 ((k : Nat) : Int))] ∧ SH w K [] w' c [] ∧ KLe K c) H ⟨K, rfl, hS, (KLe.refl _)⟩ ?_ ?_
  ·rintro k y _ I ae hi20 J O ⟨c, rfl, i, l⟩
   refine sr (lv (rv_lss rfl rfl) (ns (wc_cond_t rfl (decide_eq_true (by omega)) (wc_skip (qe_seq (wc_seq (wc_block (sr (mv rfl (av rfl (ns ?_)))))))))))
   obtain ⟨R, S, T⟩ := ob J
   refine wc_cutg (fun E' w' => ∃ d, E' = [(0, sv p0_s), (5, .int .i64 (p0_s.length : Int)), (6, .int .i64 ((k : Nat) : Int)), (18, .bool R)] ∧ SH w K [] w' d [] ∧ KLe c d) ?_ ?_
   ·refine wc_region (mv rfl (mv rfl ?_))
    obtain ⟨U, V, A⟩ := ob S
    refine lv (rv_sidx Try.underlying9 rfl rfl V) (lv (rv_bl (b := (32 : UInt8)) rfl rfl) (mv rfl ?_))
    rcases bool_tf (decide (U < (32 : UInt8))) with a | a
    ·have m := cond_t a A
     refine lu a (lu a (lu a (lu a (lv (rv_pick_t (v := .bool true) rfl a rfl) (wl_nil ?_)))))
     obtain rfl := oi m
     exact qd ⟨c, rfl, i, (KLe.refl _)⟩
    have m := cond_f a A
    refine lg a (rv_move rfl) (lg a (rv_move rfl) ?_)
    obtain ⟨af, W, X⟩ := ob m
    refine lg a (rv_sidx Try.underlying9 rfl rfl W) (lg a (rv_bg (b := (126 : UInt8)) rfl rfl) (lv (rv_pick_f rfl a rfl) (wl_nil ?_)))
    obtain rfl := oi X
    exact qd ⟨c, rfl, i, (KLe.refl _)⟩
   rintro _ ag ⟨d, rfl, B, Y⟩
   refine qe_seq (wcc T rfl (fun Z o => ?_) (fun Z o => ?_))
   ·refine sr (lv (rv_assign (v := .bool false) rfl) (nq (wc_ret (qe_block_ret (qe_then_ret (qe_then_ret ?_))))))
    obtain rfl := oi o
    have aa := O _ rfl
    subst aa
    refine qe_block_ret (qe_then_ret ?_)
    obtain rfl := oi x
    refine qe_then_ret ?_
    obtain rfl := oi q
    exact er Try.results42 ⟨rfl, trivial⟩ ⟨d, rfl, B⟩
   refine wc_skip (qe_block (qg (lv (rv_add_to rfl rfl (w64_succ hi20 C)) (mv rfl (wl_nil ?_)))))
   obtain rfl := oi o
   exact qd ⟨_, rfl, d, rfl, B, (l.trans Y)⟩
  rintro y _ I ab ⟨c, rfl, i, l⟩
  subst ab
  refine sr (lv (rv_lss rfl rfl) (ns (wc_cond_f rfl (decide_eq_false (by omega)) (wc_exit (qe_then_exit (qe_then_exit (qe_block_eq ?_)))))))
  obtain rfl := oi x
  exact qd ⟨_, c, rfl, rfl, i, l⟩
 rintro _ w8 ⟨s, f, rfl, rfl, ac, ai⟩
 refine qr (mv rfl (lv (rv_slen Try.underlying9 rfl) (lv (rv_leq rfl rfl) (av rfl (nq (wc_ret ?_))))))
 obtain rfl := oi q
 exact er Try.results42 ⟨rfl, trivial⟩ ⟨f, rfl, ac⟩

set_option maxHeartbeats 2000000 in
theorem ok_impl_DocOk (F : Nat) {w : World} {K : KMap} {o : Option Addr} {q s : Nat} {x : Option Addr} {y A : Nat} {p0_d : GDoc} {r : Bool} (hS : SH w K [] w K []) (aW : rng64 p0_d.Id) (R : SliceAt tGField K o q s p0_d.Fields) (S : SliceAt tGAttr K x y A p0_d.Nums) (hm : M.impl_DocOk F p0_d = some r) :
  Calls Try.prog 24 #[.agg #[.int .i64 p0_d.Id, .slice o q s, .slice x y A]] w fun e w' => ∃ (K' : KMap), e = .returned (.bool r) ∧ SH w K [] w' K' [] := by
 rw [M.impl_DocOk] at hm
 refine calls_in Try.func24 rfl Try.ntmps24 rfl (sr (bx rfl hS fun f cX aX => ?_))
 have ah : SH _ _ _ _ _ [obj f [.int .i64 p0_d.Id, .slice o q s, .slice x y A] 44] := aX
 refine lv (rv_assign (v := .bool false) rfl) (ns (wc_seq ?_))
 obtain ⟨aY, aZ, a0⟩ := ob hm
 refine wc_cutg (fun E' w' => ∃ G, E' = [(1, pt f), (22, .bool aY)] ∧ SH w K [] w' G [obj f [.int .i64 p0_d.Id, .slice o q s, .slice x y A] 44] ∧ KLe K G) ?_ ?_
 ·refine wc_region (fa ff44_0 rfl (lv (rv_loadm1 tf3 rfl m0 ah rfl) ?_))
  obtain ⟨a1, a3, aw⟩ := ob aZ
  refine lc (vs := [.int .i64 p0_d.Id, .int .i64 1, .int .i64 9999]) co25 ((ok_impl_within F) ah.enter0 aW (by decide : rng64 1) (by decide : rng64 9999) a3) ?_
  rintro cY cZ ⟨ai, rfl, H⟩
  refine ⟨_, rfl, ?_⟩
  have T := (ah.c0 H).t1
  refine lv (rv_not rfl) (mv rfl ?_)
  rcases bool_tf ((!a1)) with i | i
  ·have Y := cond_t i aw
   refine lu i (lu i (lu i (lu i (lv (rv_pick_t (v := .bool true) rfl i rfl) (mv rfl (lu rfl (lu rfl (lu rfl (lu rfl ?_)))))))))
   refine lv (rv_pick_t (v := .bool true) rfl rfl rfl) (wl_nil ?_)
   obtain rfl := oi Y
   exact qd ⟨ai, rfl, T, H.le⟩
  have Y := cond_f i aw
  refine lg i (rv_fieldAddr ff44_1 rfl) (lg i (rv_loadm1 tf41 rfl m0 T rfl) (lg i (rv_len (t := tGField) Try.underlying41 rfl (R.mono H.le)) (lg i (rv_gtr rfl rfl) (lv (rv_pick_f rfl i rfl) (mv rfl ?_)))))
  rcases bool_tf (decide ((3 : Int) < (p0_d.Fields.length : Int))) with k | k
  ·have aj := cond_t k Y
   refine lu k (lu k (lu k (lu k (lv (rv_pick_t (v := .bool true) rfl k rfl) (wl_nil ?_)))))
   obtain rfl := oi aj
   exact qd ⟨ai, rfl, T, H.le⟩
  have aj := cond_f k Y
  refine lg k (rv_fieldAddr ff44_2 rfl) (lg k (rv_loadm1 tf42 rfl m0 T rfl) (lg k (rv_len (t := tGAttr) Try.underlying42 rfl (S.mono H.le)) (lg k (rv_gtr rfl rfl) (lv (rv_pick_f rfl k rfl) (wl_nil ?_)))))
  obtain rfl := oi aj
  exact qd ⟨ai, rfl, T, H.le⟩
 rintro _ c0 ⟨G, rfl, ak, D⟩
 refine qe_seq (wcc a0 rfl (fun a4 am => ?_) (fun a4 am => ?_))
 ·refine sr (lv (rv_assign (v := .bool false) rfl) (nq (rr ?_)))
  obtain rfl := oi am
  have a5 := ak.sb (sd sz)
  exact er Try.results24 ⟨rfl, trivial⟩ ⟨G, rfl, a5⟩
 refine wc_skip (qs (sr (fa ff44_1 rfl (lv (rv_loadm1 tf41 rfl m0 ak rfl) (lv (rv_len (t := tGField) Try.underlying41 rfl (R.mono D)) (lv (rv_move (v := .int .i64 0) rfl) (nq ?_)))))))
 obtain ⟨a7, a8, ax⟩ := ob am
 refine wc_cutg (fun E' w' => ∃ ay I, a7 = .inl ay ∧ E' = [(1, pt f)] ∧ SH w K [] w' I [obj f [.int .i64 p0_d.Id, .slice o q s, .slice x y A] 44] ∧ KLe G I) ?_ ?_
 ·refine wc_block ?_
  obtain ⟨c1, a9, az⟩ := ob a8
  refine qf (fun (Z : Nat) (aA : Unit) E' w' => ∃ J, E' = [(1, pt f), (24, .slice o q s), (25, .int .i64 (p0_d.Fields.length : Int)), (26, .int .i64 ((Z : Nat) : Int))] ∧ SH w K [] w' J [obj f [.int .i64 p0_d.Id, .slice o q s, .slice x y A] 44] ∧ KLe G J) a9 ⟨G, rfl, ak, (KLe.refl _)⟩ ?_ ?_
  ·rintro Z aA _ ba c2 hi54 bb bc ⟨J, rfl, aa, U⟩
   refine sr (lv (rv_lss rfl rfl) (ns (wc_cond_t rfl (decide_eq_true (by omega)) (wc_skip (qe_seq (wc_seq (wc_block (sr (mv rfl ?_)))))))))
   obtain ⟨B, bd, be⟩ := ob bb
   refine li Try.underlying41 tf69 (R.mono (D.trans U)) bd fun bf bg c3 bh bi => ?_
   obtain ⟨rfl, bj, bk⟩ := bh
   have bl : AtK _ bf bg [sv B.Name, sv B.Text] := bi
   refine lv (rv_loadS (cs := [sv B.Name, sv B.Text]) tf69 rfl aa bl rfl) (al tf69 aa fun bm c5 bn => ?_)
   have bo : SH _ _ _ _ _ [obj bm [sv [], sv []] 69, _] := bn
   refine av rfl (ls [sv B.Name, sv B.Text] (.agg #[sv B.Name, sv B.Text]) tf69 bo fun c6 bp => (ns ?_))
   obtain ⟨bq, br, bs⟩ := ob be
   refine wc_cutg (fun E' w' => ∃ V, E' = [(1, pt f), (24, .slice o q s), (25, .int .i64 (p0_d.Fields.length : Int)), (26, .int .i64 ((Z : Nat) : Int)), (56, .bool bq)] ∧ SH w K [] w' V [obj f [.int .i64 p0_d.Id, .slice o q s, .slice x y A] 44] ∧ KLe J V) ?_ ?_
   ·refine wc_quiet mixed (by kernel_rfl) bp (kv (rv_fieldAddr ff69_0 rfl) (kh (rq_loadm1 tf9 rfl m0 rfl) ?_))
    obtain ⟨aB, bt, aC⟩ := ob br
    refine wq_call (v := .bool aB) wn rfl (fun _ => rt_call (vs := [sv B.Name]) co41 rfl) (fun c7 ⟨c9, aD, bu⟩ => ((ok_impl_WordOk F) aD.enter0 bj bt).mono fun e w' ⟨K', he, hS'⟩ => ⟨he, K', aD.call0 hS', bu.trans hS'.le⟩) (kv (rv_not rfl) (km rfl ?_))
    rcases bool_tf ((!aB)) with l | l
    ·have an := cond_t l aC
     refine kn l (kn l (kn l (kn l (kv (rv_pick_t (v := .bool true) rfl l rfl) (km rfl (qv rfl rfl rfl rfl (qv rfl rfl rfl rfl (qv rfl rfl rfl rfl (ku ?_)))))))))
     refine ku (ku (ku (ku (ku (ku (ku (ku (ku (qv rfl rfl rfl rfl ?_)))))))))
     refine kv (rv_pick_t (v := .bool true) rfl rfl rfl) (wq_nil ?_)
     rintro da ⟨bv, bw, bz⟩
     obtain rfl := oi an
     have bA := bw.sb (sd (sk sz))
     exact qd ⟨bv, rfl, bA, bz⟩
    have an := cond_f l aC
    refine kg l (rv_fieldAddr ff69_1 rfl) (kgh l (rq_loadm1 tf9 rfl m0 rfl) ?_)
    obtain ⟨aE, bB, aF⟩ := ob an
    refine wq_call (v := .bool aE) (wg rfl rfl l) rfl (fun _ => rt_call (vs := [sv B.Text]) co42 rfl) (fun db ⟨dc, aG, bC⟩ => ((ok_impl_TextOk F) aG.enter0 bk bB).mono fun e w' ⟨K', he, hS'⟩ => ⟨he, K', aG.call0 hS', bC.trans hS'.le⟩) (kg l (rv_not rfl) (kv (rv_pick_f rfl l rfl) (km rfl ?_)))
    rcases bool_tf ((!aE)) with c | c
    ·have ab := cond_t c aF
     refine kn c (kn c (kn c (ku (ku (ku (ku (ku (ku (ku ?_)))))))))
     refine ku (ku (ku (kn c (kv (rv_pick_t (v := .bool true) rfl c rfl) (wq_nil ?_)))))
     rintro dd ⟨bD, bE, bF⟩
     obtain rfl := oi ab
     have bG := bE.sb (sd (sk sz))
     exact qd ⟨bD, rfl, bG, bF⟩
    have ab := cond_f c aF
    refine kg c (rv_move rfl) (kg c (rv_gtr rfl rfl) (kg c (rv_move rfl) ?_))
    rcases bool_tf (decide ((0 : Int) < ((Z : Nat) : Int))) with a | a
    ·have ao := cond_t a ab
     refine kg a (rv_fieldAddr ff44_1 rfl) (kgh a (rq_loadm1 tf41 rfl m1 rfl) (kg a (rv_move rfl) (kg a (rv_sub rfl rfl) ?_)))
     obtain ⟨aH, bH, bI⟩ := ob ao
     refine wq_indexAddr (t := tGField) (wg rfl rfl a) rfl Try.underlying41 tf69 rfl rfl (R.mono (D.trans U)) bH fun bJ bK de bL bM => ?_
     obtain ⟨rfl, df, dg⟩ := bL
     have bN : AtK _ bJ bK [sv aH.Name, sv aH.Text] := bM
     refine kg a (rv_fieldAddr ff69_0 rfl) (kgh a (rq_load1 tf9 rfl (bN 0 _ rfl)) (kg a (rv_fieldAddr ff69_0 rfl) (kgh a (rq_loadm1 tf9 rfl m0 rfl) (kg a (rv_sgeq rfl rfl) (kg c (rv_pick_t rfl a rfl) (kv (rv_pick_f rfl c rfl) (wq_nil ?_)))))))
     rintro dh ⟨bO, bP, bQ⟩
     obtain rfl := oi bI
     have bR := bP.sb (sd (sk sz))
     exact qd ⟨bO, rfl, bR, bQ⟩
    have ao := cond_f a ab
    refine kn a (kn a (kn a (kn a (kn a (kn a (kn a (kn a (kn a (kn a ?_)))))))))
    refine kg c (rv_pick_f (v := .bool false) rfl a rfl) (kv (rv_pick_f rfl c rfl) (wq_nil ?_))
    rintro di ⟨bS, bT, bU⟩
    obtain rfl := oi ao
    have bV := bT.sb (sd (sk sz))
    exact qd ⟨bS, rfl, bV, bU⟩
   rintro _ dj ⟨V, rfl, aI, bW⟩
   refine qe_seq (wcc bs rfl (fun bX ap => ?_) (fun bX ap => ?_))
   ·refine sr (lv (rv_assign (v := .bool false) rfl) (nq (wc_ret (qe_block_ret (qe_then_ret (qe_then_ret ?_))))))
    obtain rfl := oi ap
    have bY := bc _ rfl
    subst bY
    refine qe_block_ret (qe_then_ret ?_)
    obtain rfl := oi az
    refine qe_then_ret ?_
    obtain rfl := oi ax
    have bZ := aI.sb (sd sz)
    exact er Try.results24 ⟨rfl, trivial⟩ ⟨V, rfl, bZ⟩
   refine wc_skip (qe_block (qg (lv (rv_add_to rfl rfl (w64_succ hi54 (SliceAt.max (R.mono D)))) (mv rfl (wl_nil ?_)))))
   obtain rfl := oi ap
   exact qd ⟨_, rfl, V, rfl, aI, (U.trans bW)⟩
  rintro aA _ ba b0 ⟨J, rfl, aa, U⟩
  subst b0
  refine sr (lv (rv_lss rfl rfl) (ns (wc_cond_f rfl (decide_eq_false (by omega)) (wc_exit (qe_then_exit (qe_then_exit (qe_block_eq ?_)))))))
  obtain rfl := oi az
  exact qd ⟨_, J, rfl, rfl, aa, U⟩
 rintro _ dk ⟨ay, I, rfl, rfl, aJ, ac⟩
 refine qs (sr (fa ff44_2 rfl (lv (rv_loadm1 tf42 rfl m0 aJ rfl) (lv (rv_len (t := tGAttr) Try.underlying42 rfl (S.mono (D.trans ac))) (lv (rv_move (v := .int .i64 0) rfl) (nq ?_))))))
 obtain ⟨b1, b2, aK⟩ := ob ax
 refine wc_cutg (fun E' w' => ∃ aL ad, b1 = .inl aL ∧ E' = [] ∧ SH w K [] w' ad [] ∧ KLe I ad) ?_ ?_
 ·refine wc_block ?_
  obtain ⟨dl, b3, aM⟩ := ob b2
  refine qf (fun (ae : Nat) (aN : Unit) E' w' => ∃ O, E' = [(1, pt f), (59, .slice x y A), (60, .int .i64 (p0_d.Nums.length : Int)), (61, .int .i64 ((ae : Nat) : Int))] ∧ SH w K [] w' O [obj f [.int .i64 p0_d.Id, .slice o q s, .slice x y A] 44] ∧ KLe I O) b3 ⟨I, rfl, aJ, (KLe.refl _)⟩ ?_ ?_
  ·rintro ae aN _ b4 dm hi156 b5 b6 ⟨O, rfl, af, W⟩
   refine sr (lv (rv_lss rfl rfl) (ns (wc_cond_t rfl (decide_eq_true (by omega)) (wc_skip (qe_seq (wc_seq (wc_block (sr (mv rfl ?_)))))))))
   obtain ⟨C, b7, b8⟩ := ob b5
   refine li Try.underlying42 tf72 (S.mono ((D.trans ac).trans W)) b7 fun b9 ca dn cb cc => ?_
   obtain ⟨rfl, cd, ce⟩ := cb
   have cf : AtK _ b9 ca [sv C.Name, .int .i64 C.Num] := cc
   refine lv (rv_loadS (cs := [sv C.Name, .int .i64 C.Num]) tf72 rfl af cf rfl) (al tf72 af fun cg dp ch => ?_)
   have ci : SH _ _ _ _ _ [obj cg [sv [], .int .i64 0] 72, _] := ch
   refine av rfl (ls [sv C.Name, .int .i64 C.Num] (.agg #[sv C.Name, .int .i64 C.Num]) tf72 ci fun dq cj => (ns ?_))
   obtain ⟨ck, cl, cm⟩ := ob b8
   refine wc_cutg (fun E' w' => ∃ X, E' = [(1, pt f), (59, .slice x y A), (60, .int .i64 (p0_d.Nums.length : Int)), (61, .int .i64 ((ae : Nat) : Int)), (91, .bool ck)] ∧ SH w K [] w' X [obj f [.int .i64 p0_d.Id, .slice o q s, .slice x y A] 44] ∧ KLe O X) ?_ ?_
   ·refine wc_quiet mixed (by kernel_rfl) cj (kv (rv_fieldAddr ff72_0 rfl) (kh (rq_loadm1 tf9 rfl m0 rfl) ?_))
    obtain ⟨aO, cn, aP⟩ := ob cl
    refine wq_call (v := .bool aO) wn rfl (fun _ => rt_call (vs := [sv C.Name]) co41 rfl) (fun dr ⟨ds, aQ, cp⟩ => ((ok_impl_WordOk F) aQ.enter0 cd cn).mono fun e w' ⟨K', he, hS'⟩ => ⟨he, K', aQ.call0 hS', cp.trans hS'.le⟩) (kv (rv_not rfl) (km rfl ?_))
    rcases bool_tf ((!aO)) with m | m
    ·have aq := cond_t m aP
     refine kn m (kn m (kn m (kn m (kv (rv_pick_t (v := .bool true) rfl m rfl) (km rfl (qv rfl rfl rfl rfl (qv rfl rfl rfl rfl (qv rfl rfl rfl rfl (ku ?_)))))))))
     refine ku (ku (ku (ku (ku (ku (ku (ku (ku (qv rfl rfl rfl rfl ?_)))))))))
     refine kv (rv_pick_t (v := .bool true) rfl rfl rfl) (wq_nil ?_)
     rintro dt ⟨cq, cr, ct⟩
     obtain rfl := oi aq
     have cu := cr.sb (sd (sk sz))
     exact qd ⟨cq, rfl, cu, ct⟩
    have aq := cond_f m aP
    refine kg m (rv_fieldAddr ff72_1 rfl) (kgh m (rq_loadm1 tf3 rfl m0 rfl) ?_)
    obtain ⟨aR, cv, aS⟩ := ob aq
    refine wq_call (v := .bool aR) (wg rfl rfl m) rfl (fun _ => rt_call (vs := [.int .i64 C.Num, .int .i64 0, .int .i64 999999999]) co25 rfl) (fun du ⟨dv, aT, cw⟩ => ((ok_impl_within F) aT.enter0 ce (by decide : rng64 0) (by decide : rng64 999999999) cv).mono fun e w' ⟨K', he, hS'⟩ => ⟨he, K', aT.call0 hS', cw.trans hS'.le⟩) (kg m (rv_not rfl) (kv (rv_pick_f rfl m rfl) (km rfl ?_)))
    rcases bool_tf ((!aR)) with d | d
    ·have ag := cond_t d aS
     refine kn d (kn d (kn d (ku (ku (ku (ku (ku (ku (ku ?_)))))))))
     refine ku (ku (ku (kn d (kv (rv_pick_t (v := .bool true) rfl d rfl) (wq_nil ?_)))))
     rintro dw ⟨cx, cy, cz⟩
     obtain rfl := oi ag
     have cA := cy.sb (sd (sk sz))
     exact qd ⟨cx, rfl, cA, cz⟩
    have ag := cond_f d aS
    refine kg d (rv_move rfl) (kg d (rv_gtr rfl rfl) (kg d (rv_move rfl) ?_))
    rcases bool_tf (decide ((0 : Int) < ((ae : Nat) : Int))) with b | b
    ·have ar := cond_t b ag
     refine kg b (rv_fieldAddr ff44_2 rfl) (kgh b (rq_loadm1 tf42 rfl m1 rfl) (kg b (rv_move rfl) (kg b (rv_sub rfl rfl) ?_)))
     obtain ⟨aU, cB, cC⟩ := ob ar
     refine wq_indexAddr (t := tGAttr) (wg rfl rfl b) rfl Try.underlying42 tf72 rfl rfl (S.mono ((D.trans ac).trans W)) cB fun cD cE dx cF cG => ?_
     obtain ⟨rfl, dy, dz⟩ := cF
     have cH : AtK _ cD cE [sv aU.Name, .int .i64 aU.Num] := cG
     refine kg b (rv_fieldAddr ff72_0 rfl) (kgh b (rq_load1 tf9 rfl (cH 0 _ rfl)) (kg b (rv_fieldAddr ff72_0 rfl) (kgh b (rq_loadm1 tf9 rfl m0 rfl) (kg b (rv_sgeq rfl rfl) (kg d (rv_pick_t rfl b rfl) (kv (rv_pick_f rfl d rfl) (wq_nil ?_)))))))
     rintro dA ⟨cI, cJ, cK⟩
     obtain rfl := oi cC
     have cL := cJ.sb (sd (sk sz))
     exact qd ⟨cI, rfl, cL, cK⟩
    have ar := cond_f b ag
    refine kn b (kn b (kn b (kn b (kn b (kn b (kn b (kn b (kn b (kn b ?_)))))))))
    refine kg d (rv_pick_f (v := .bool false) rfl b rfl) (kv (rv_pick_f rfl d rfl) (wq_nil ?_))
    rintro dB ⟨cM, cN, cO⟩
    obtain rfl := oi ar
    have cP := cN.sb (sd (sk sz))
    exact qd ⟨cM, rfl, cP, cO⟩
   rintro _ dC ⟨X, rfl, aV, cQ⟩
   refine qe_seq (wcc cm rfl (fun cR au => ?_) (fun cR au => ?_))
   ·refine sr (lv (rv_assign (v := .bool false) rfl) (nq (wc_ret (qe_block_ret (qe_then_ret (qe_then_ret ?_))))))
    obtain rfl := oi au
    have cS := b6 _ rfl
    subst cS
    refine qe_block_ret (qe_then_ret ?_)
    obtain rfl := oi aM
    refine qe_then_ret ?_
    obtain rfl := oi aK
    have cT := aV.sb (sd sz)
    exact er Try.results24 ⟨rfl, trivial⟩ ⟨X, rfl, cT⟩
   refine wc_skip (qe_block (qg (lv (rv_add_to rfl rfl (w64_succ hi156 (SliceAt.max (S.mono (D.trans ac))))) (mv rfl (wl_nil ?_)))))
   obtain rfl := oi au
   exact qd ⟨_, rfl, X, rfl, aV, (W.trans cQ)⟩
  rintro aN _ b4 cU ⟨O, rfl, af, W⟩
  subst cU
  refine sr (lv (rv_lss rfl rfl) (ns (wc_cond_f rfl (decide_eq_false (by omega)) (wc_exit (qe_then_exit (qe_then_exit (qe_block_eq ?_)))))))
  obtain rfl := oi aM
  have cV := af.sb (sd sz)
  exact qe_mid' ⟨_, O, rfl, rfl, cV, W⟩ trivial
 rintro _ dD ⟨aL, ad, rfl, rfl, cW, dE⟩
 refine qr (lv (rv_assign (v := .bool true) rfl) (nq (wc_ret ?_)))
 obtain rfl := oi aK
 exact er Try.results24 ⟨rfl, trivial⟩ ⟨ad, rfl, cW⟩

set_option maxHeartbeats 2000000 in
theorem ok_impl_DocsOk (F : Nat) {w : World} {K : KMap} {c : Option Addr} {d f : Nat} {p0_list : List GDoc} {r : Bool} (hS : SH w K [] w K []) (y : SliceAt tGDoc K c d f p0_list) (hm : M.impl_DocsOk F p0_list = some r) :
  Calls Try.prog 8 #[.slice c d f] w fun e w' => ∃ (K' : KMap), e = .returned (.bool r) ∧ SH w K [] w' K' [] := by
 rw [M.impl_DocsOk] at hm
 refine calls_in Try.func8 rfl Try.ntmps8 rfl (sr (lv (rv_assign (v := .bool false) rfl) (nsr (mv rfl (lv (rv_len (t := tGDoc) Try.underlying23 rfl y) (lv (rv_move (v := .int .i64 0) rfl) (nq ?_)))))))
 obtain ⟨Z, h6, R⟩ := ob hm
 refine wc_cutg (fun E' w' => ∃ S C, Z = .inl S ∧ E' = [(0, .slice c d f)] ∧ SH w K [] w' C [] ∧ KLe K C) ?_ ?_
 ·refine wc_block ?_
  obtain ⟨a8, ab, T⟩ := ob h6
  refine qf (fun (D : Nat) (U : Unit) E' w' => ∃ i, E' = [(0, .slice c d f), (5, .slice c d f), (6, .int .i64 (p0_list.length : Int)), (7, .int .i64 ((D : Nat) : Int))] ∧ SH w K [] w' i [] ∧ KLe K i) ab ⟨K, rfl, hS, (KLe.refl _)⟩ ?_ ?_
  ·rintro D U _ ac a9 hi23 ad ae ⟨i, rfl, G, A⟩
   refine sr (lv (rv_lss rfl rfl) (ns (wc_cond_t rfl (decide_eq_true (by omega)) (wc_skip (qe_seq (wc_seq (wc_block (sr (mv rfl ?_)))))))))
   obtain ⟨k, af, ag⟩ := ob ad
   refine li Try.underlying23 tf44 (y.mono A) af fun ah ai ba aj ak => ?_
   obtain ⟨l, m, o, q, s, x, rfl, am, an, ao⟩ := aj
   have ap : AtK _ ah ai [.int .i64 k.Id, .slice l m o, .slice q s x] := ak
   refine lv (rv_loadS (cs := [.int .i64 k.Id, .slice l m o, .slice q s x]) tf44 rfl G ap rfl) (al tf44 G fun aq bb ar => ?_)
   have au : SH _ _ _ _ _ [obj aq [.int .i64 0, .slice none 0 0, .slice none 0 0] 44] := ar
   refine av rfl (ls [.int .i64 k.Id, .slice l m o, .slice q s x] (.agg #[.int .i64 k.Id, .slice l m o, .slice q s x]) tf44 au fun bc aw => (ns ?_))
   obtain ⟨ax, ay, az⟩ := ob ag
   refine wc_cutg (fun E' w' => ∃ B, E' = [(0, .slice c d f), (5, .slice c d f), (6, .int .i64 (p0_list.length : Int)), (7, .int .i64 ((D : Nat) : Int)), (29, .bool ax)] ∧ SH w K [] w' B [] ∧ KLe i B) ?_ ?_
   ·refine wc_quiet mixed (by kernel_rfl) aw (kh (rq_loadmS (ds := [.int .i64 k.Id, .slice l m o, .slice q s x]) tf44 rfl m0 rfl rfl) ?_)
    obtain ⟨V, aA, W⟩ := ob ay
    refine wq_call (v := .bool V) wn rfl (fun _ => rt_call (vs := [.agg #[.int .i64 k.Id, .slice l m o, .slice q s x]]) co24 rfl) (fun bd ⟨be, X, I⟩ => ((ok_impl_DocOk F) X.enter0 am (an.mono I) (ao.mono I) aA).mono fun e w' ⟨K', he, hS'⟩ => ⟨he, K', X.call0 hS', I.trans hS'.le⟩) (kv (rv_not rfl) (km rfl ?_))
    rcases bool_tf ((!V)) with b | b
    ·have H := cond_t b W
     refine kn b (kn b (kn b (ku (ku (ku (ku (ku (ku (ku ?_)))))))))
     refine ku (ku (kn b (kv (rv_pick_t (v := .bool true) rfl b rfl) (wq_nil ?_))))
     rintro bf ⟨aB, aC, aD⟩
     obtain rfl := oi H
     have aE := aC.sb (sd sz)
     exact qd ⟨aB, rfl, aE, aD⟩
    have H := cond_f b W
    refine kg b (rv_move rfl) (kg b (rv_gtr rfl rfl) (kg b (rv_move rfl) ?_))
    rcases bool_tf (decide ((0 : Int) < ((D : Nat) : Int))) with a | a
    ·have J := cond_t a H
     refine kg a (rv_move rfl) (kg a (rv_move rfl) (kg a (rv_sub rfl rfl) ?_))
     obtain ⟨aF, aG, aH⟩ := ob J
     refine wq_indexAddr (t := tGDoc) (wg rfl rfl a) rfl Try.underlying23 tf44 rfl rfl (y.mono A) aG fun aI aJ bg aK aL => ?_
     obtain ⟨aM, aN, aO, aP, aQ, aR, rfl, bh, bi, bj⟩ := aK
     have aS : AtK _ aI aJ [.int .i64 aF.Id, .slice aM aN aO, .slice aP aQ aR] := aL
     refine kg a (rv_fieldAddr ff44_0 rfl) (kgh a (rq_load1 tf3 rfl (aS 0 _ rfl)) (kg a (rv_fieldAddr ff44_0 rfl) (kgh a (rq_loadm1 tf3 rfl m0 rfl) (kg a (rv_geq rfl rfl) (kg b (rv_pick_t rfl a rfl) (kv (rv_pick_f rfl b rfl) (wq_nil ?_)))))))
     rintro bk ⟨aT, aU, aV⟩
     obtain rfl := oi aH
     have aW := aU.sb (sd sz)
     exact qd ⟨aT, rfl, aW, aV⟩
    have J := cond_f a H
    refine kn a (kn a (kn a (kn a (kn a (kn a (kn a (kn a (kn a (kg b (rv_pick_f (v := .bool false) rfl a rfl) ?_)))))))))
    refine kv (rv_pick_f rfl b rfl) (wq_nil ?_)
    rintro bl ⟨aX, aY, aZ⟩
    obtain rfl := oi J
    have a0 := aY.sb (sd sz)
    exact qd ⟨aX, rfl, a0, aZ⟩
   rintro _ bm ⟨B, rfl, Y, a2⟩
   refine qe_seq (wcc az rfl (fun a3 O => ?_) (fun a3 O => ?_))
   ·refine sr (lv (rv_assign (v := .bool false) rfl) (nq (wc_ret (qe_block_ret (qe_then_ret (qe_then_ret ?_))))))
    obtain rfl := oi O
    have a4 := ae _ rfl
    subst a4
    refine qe_block_ret (qe_then_ret ?_)
    obtain rfl := oi T
    refine qe_then_ret ?_
    obtain rfl := oi R
    exact er Try.results8 ⟨rfl, trivial⟩ ⟨B, rfl, Y⟩
   refine wc_skip (qe_block (qg (lv (rv_add_to rfl rfl (w64_succ hi23 (SliceAt.max y))) (mv rfl (wl_nil ?_)))))
   obtain rfl := oi O
   exact qd ⟨_, rfl, B, rfl, Y, (A.trans a2)⟩
  rintro U _ ac a5 ⟨i, rfl, G, A⟩
  subst a5
  refine sr (lv (rv_lss rfl rfl) (ns (wc_cond_f rfl (decide_eq_false (by omega)) (wc_exit (qe_then_exit (qe_then_exit (qe_block_eq ?_)))))))
  obtain rfl := oi T
  exact qd ⟨_, i, rfl, rfl, G, A⟩
 rintro _ bn ⟨S, C, rfl, rfl, a6, a7⟩
 refine qr (mv rfl (lv (rv_len (t := tGDoc) Try.underlying23 rfl (y.mono a7)) (lv (rv_leq rfl rfl) (av rfl (nq (wc_ret ?_))))))
 obtain rfl := oi R
 exact er Try.results8 ⟨rfl, trivial⟩ ⟨C, rfl, a6⟩

set_option maxHeartbeats 2000000 in
theorem ok_impl_UpOk (F : Nat) {w : World} {K : KMap} {c : Option Addr} {d f : Nat} {p0_list : List Int} {r : Bool} (hS : SH w K [] w K []) (k : SliceAt tInt K c d f p0_list) (hm : M.impl_UpOk F p0_list = some r) :
  Calls Try.prog 9 #[.slice c d f] w fun e w' => ∃ (K' : KMap), e = .returned (.bool r) ∧ SH w K [] w' K' [] := by
 rw [M.impl_UpOk] at hm
 refine calls_in Try.func9 rfl Try.ntmps9 rfl (sr (lv (rv_assign (v := .bool false) rfl) (nsr (mv rfl (lv (rv_len (t := tInt) Try.underlying24 rfl k) (lv (rv_move (v := .int .i64 0) rfl) (nq ?_)))))))
 obtain ⟨T, U, G⟩ := ob hm
 refine wc_cutg (fun E' w' => ∃ H s, T = .inl H ∧ E' = [(0, .slice c d f)] ∧ SH w K [] w' s [] ∧ KLe K s) ?_ ?_
 ·refine wc_block ?_
  obtain ⟨aD, V, I⟩ := ob U
  refine qf (fun (x : Nat) (J : Unit) E' w' => ∃ i, E' = [(0, .slice c d f), (5, .slice c d f), (6, .int .i64 (p0_list.length : Int)), (7, .int .i64 ((x : Nat) : Int))] ∧ SH w K [] w' i [] ∧ KLe K i) V ⟨K, rfl, hS, (KLe.refl _)⟩ ?_ ?_
  ·rintro x J _ W aE hi23 X Y ⟨i, rfl, l, m⟩
   refine sr (lv (rv_lss rfl rfl) (ns (wc_cond_t rfl (decide_eq_true (by omega)) (wc_skip (qe_seq (wc_seq (wc_block (sr (mv rfl ?_)))))))))
   obtain ⟨O, Z, aa⟩ := ob X
   refine li Try.underlying24 tf3 (k.mono m) Z fun ab ac aF ad ae => ?_
   obtain ⟨rfl, af⟩ := ad
   have ag : AtK _ ab ac [.int .i64 O] := ae
   refine lv (rv_load1 tf3 rfl l (ag 0 _ rfl)) (av rfl (av rfl (ns ?_)))
   obtain ⟨ah, ai, aj⟩ := ob aa
   refine wc_cutg (fun E' w' => ∃ o, E' = [(0, .slice c d f), (5, .slice c d f), (6, .int .i64 (p0_list.length : Int)), (7, .int .i64 ((x : Nat) : Int)), (27, .bool ah)] ∧ SH w K [] w' o [] ∧ KLe i o) ?_ ?_
   ·refine wc_region (mv rfl ?_)
    obtain ⟨ak, al, R⟩ := ob ai
    refine lc (vs := [.int .i64 O, .int .i64 0, .int .i64 999999999]) co25 ((ok_impl_within F) l.enter0 af (by decide : rng64 0) (by decide : rng64 999999999) al) ?_
    rintro aG aH ⟨B, rfl, q⟩
    refine ⟨_, rfl, ?_⟩
    have y := (l.c0 q).t0
    refine lv (rv_not rfl) (mv rfl ?_)
    rcases bool_tf ((!ak)) with b | b
    ·have A := cond_t b R
     refine lu b (lu b (lu b (wl_un (uu rfl rfl) rfl (wl_un (uu rfl rfl) rfl (wl_un (uu rfl rfl) rfl (wl_un (uu rfl rfl) rfl (wl_un (uu rfl rfl) rfl (wl_un (uu rfl rfl) rfl (wl_un (uu rfl rfl) rfl ?_)))))))))
     refine lu b (lv (rv_pick_t (v := .bool true) rfl b rfl) (wl_nil ?_))
     obtain rfl := oi A
     exact qd ⟨B, rfl, y, q.le⟩
    have A := cond_f b R
    refine lg b (rv_move rfl) (lg b (rv_gtr rfl rfl) (lg b (rv_move rfl) ?_))
    rcases bool_tf (decide ((0 : Int) < ((x : Nat) : Int))) with a | a
    ·have C := cond_t a A
     refine lg a (rv_move rfl) (lg a (rv_move rfl) (lg a (rv_sub rfl rfl) ?_))
     obtain ⟨am, an, ao⟩ := ob C
     refine wl_indexAddr (t := tInt) (wg rfl rfl a) rfl Try.underlying24 tf3 rfl rfl (k.mono (m.trans q.le)) an fun ap aq aI ar au => ?_
     obtain ⟨rfl, aJ⟩ := ar
     have aw : AtK _ ap aq [.int .i64 am] := au
     refine lg a (rv_load1 tf3 rfl y (aw 0 _ rfl)) (lg a (rv_move rfl) (lg a (rv_geq rfl rfl) (lg b (rv_pick_t rfl a rfl) (lv (rv_pick_f rfl b rfl) (wl_nil ?_)))))
     obtain rfl := oi ao
     exact qd ⟨B, rfl, y, q.le⟩
    have C := cond_f a A
    refine lu a (lu a (lu a (lu a (lu a (lu a (lu a (lg b (rv_pick_f (v := .bool false) rfl a rfl) (lv (rv_pick_f rfl b rfl) (wl_nil ?_)))))))))
    obtain rfl := oi C
    exact qd ⟨B, rfl, y, q.le⟩
   rintro _ aK ⟨o, rfl, S, ax⟩
   refine qe_seq (wcc aj rfl (fun ay D => ?_) (fun ay D => ?_))
   ·refine sr (lv (rv_assign (v := .bool false) rfl) (nq (wc_ret (qe_block_ret (qe_then_ret (qe_then_ret ?_))))))
    obtain rfl := oi D
    have az := Y _ rfl
    subst az
    refine qe_block_ret (qe_then_ret ?_)
    obtain rfl := oi I
    refine qe_then_ret ?_
    obtain rfl := oi G
    exact er Try.results9 ⟨rfl, trivial⟩ ⟨o, rfl, S⟩
   refine wc_skip (qe_block (qg (lv (rv_add_to rfl rfl (w64_succ hi23 (SliceAt.max k))) (mv rfl (wl_nil ?_)))))
   obtain rfl := oi D
   exact qd ⟨_, rfl, o, rfl, S, (m.trans ax)⟩
  rintro J _ W aA ⟨i, rfl, l, m⟩
  subst aA
  refine sr (lv (rv_lss rfl rfl) (ns (wc_cond_f rfl (decide_eq_false (by omega)) (wc_exit (qe_then_exit (qe_then_exit (qe_block_eq ?_)))))))
  obtain rfl := oi I
  exact qd ⟨_, i, rfl, rfl, l, m⟩
 rintro _ aL ⟨H, s, rfl, rfl, aB, aC⟩
 refine qr (mv rfl (lv (rv_len (t := tInt) Try.underlying24 rfl (k.mono aC)) (lv (rv_leq rfl rfl) (av rfl (nq (wc_ret ?_))))))
 obtain rfl := oi G
 exact er Try.results9 ⟨rfl, trivial⟩ ⟨s, rfl, aB⟩

theorem ok_impl_DocNum (F : Nat) {w : World} {K : KMap} {i : Option Addr} {k l : Nat} {c : Option Addr} {d f : Nat} {p0_d : GDoc} {p1_name : Str} {r : Int} (hS : SH w K [] w K []) (S : rng64 p0_d.Id) (T : SliceAt tGField K i k l p0_d.Fields) (m : SliceAt tGAttr K c d f p0_d.Nums) (aC : p1_name.length ≤ maxLen) (hm : M.impl_DocNum F p0_d p1_name = some r) :
  Calls Try.prog 30 #[.agg #[.int .i64 p0_d.Id, .slice i k l, .slice c d f], sv p1_name] w fun e w' => ∃ (K' : KMap), e = .returned (.int .i64 r) ∧ SH w K [] w' K' [] ∧ rng64 r := by
 rw [M.impl_DocNum] at hm
 refine calls_in Try.func30 rfl Try.ntmps30 rfl (sr (bx rfl hS fun U aD V => ?_))
 have B : SH _ _ _ _ _ [obj U [.int .i64 p0_d.Id, .slice i k l, .slice c d f] 44] := V
 refine lv (rv_assign (v := .int .i64 0) rfl) (nsr (lv (rv_loadmS (ds := [.int .i64 p0_d.Id, .slice i k l, .slice c d f]) tf44 rfl m0 B rfl rfl) ?_))
 obtain ⟨aE, W, X⟩ := ob hm
 refine lc (vs := [.agg #[.int .i64 p0_d.Id, .slice i k l, .slice c d f]]) co24 ((ok_impl_DocOk F) B.enter0 S T m W) ?_
 rintro aF aG ⟨o, rfl, q⟩
 refine ⟨_, rfl, ?_⟩
 have C := (B.c0 q).t1
 refine nq (wcc X rfl (fun Y D => ?_) (fun Y D => ?_))
 ·refine sr (fa ff44_2 rfl (lv (rv_loadm1 tf42 rfl m0 C rfl) (lv (rv_len (t := tGAttr) Try.underlying42 rfl (m.mono q.le)) (lv (rv_move (v := .int .i64 0) rfl) (nq ?_)))))
  obtain ⟨Z, aa, H⟩ := ob D
  refine wc_cutg (fun E' w' => ∃ I s, Z = .inl I ∧ E' = [] ∧ SH w K [] w' s [] ∧ KLe o s) ?_ ?_
  ·refine wc_block ?_
   obtain ⟨aH, ab, J⟩ := ob aa
   have ac := C.sb (sd sz)
   refine qf (fun (O : Nat) (R : Unit) E' w' => ∃ b, E' = [(1, sv p1_name), (10, .slice c d f), (11, .int .i64 (p0_d.Nums.length : Int)), (12, .int .i64 ((O : Nat) : Int))] ∧ SH w K [] w' b [] ∧ KLe o b) ab ⟨o, rfl, ac, (KLe.refl _)⟩ ?_ ?_
   ·rintro O R _ ad aI hi44 ae af ⟨b, rfl, x, y⟩
    refine sr (lv (rv_lss rfl rfl) (ns (wc_cond_t rfl (decide_eq_true (by omega)) (wc_skip (qe_seq (wc_seq (wc_block (sr ?_))))))))
    obtain ⟨a, ag, ah⟩ := ob ae
    refine li Try.underlying42 tf72 (m.mono (q.le.trans y)) ag fun ai aj aJ ak am => ?_
    obtain ⟨rfl, aK, an⟩ := ak
    have ao : AtK _ ai aj [sv a.Name, .int .i64 a.Num] := am
    refine lv (rv_loadS (cs := [sv a.Name, .int .i64 a.Num]) tf72 rfl x ao rfl) (al tf72 x fun ap aL aq => ?_)
    have ar : SH _ _ _ _ _ [obj ap [sv [], .int .i64 0] 72] := aq
    refine ls [sv a.Name, .int .i64 a.Num] (.agg #[sv a.Name, .int .i64 a.Num]) tf72 ar fun aM A => (nr (fa ff72_0 rfl (lv (rv_loadm1 tf9 rfl m0 A rfl) (mv rfl (lv (rv_seql rfl rfl) (nq (wcc ah rfl (fun au G => ?_) (fun au G => ?_))))))))
    ·refine sr (fa ff72_1 rfl (lv (rv_loadm1 tf3 rfl m0 A rfl) (av rfl (nq (wc_ret (qe_block_ret (qe_then_ret (qe_then_ret ?_))))))))
     obtain rfl := oi G
     have aw := af _ rfl
     subst aw
     refine qe_block_ret (qe_then_ret ?_)
     obtain rfl := oi J
     refine qe_then_ret ?_
     obtain rfl := oi H
     have ax := A.sb (sd sz)
     exact er Try.results30 ⟨rfl, trivial⟩ ⟨b, rfl, ax, an⟩
    refine wc_skip (qe_block (qg (lv (rv_add_to rfl rfl (w64_succ hi44 (SliceAt.max (m.mono q.le)))) (mv rfl (wl_nil ?_)))))
    obtain rfl := oi G
    have ay := A.sb (sd sz)
    exact qd ⟨_, rfl, b, rfl, ay, y⟩
   rintro R _ ad az ⟨b, rfl, x, y⟩
   subst az
   refine sr (lv (rv_lss rfl rfl) (ns (wc_cond_f rfl (decide_eq_false (by omega)) (wc_exit (qe_then_exit (qe_then_exit (qe_block_eq ?_)))))))
   obtain rfl := oi J
   exact qe_mid' ⟨_, b, rfl, rfl, x, y⟩ trivial
  rintro _ aN ⟨I, s, rfl, rfl, aA, aO⟩
  refine qr (lv (rv_assign (v := .int .i64 (-1)) rfl) (nq (wc_ret ?_)))
  obtain rfl := oi H
  exact er Try.results30 ⟨rfl, trivial⟩ ⟨s, rfl, aA, (by decide : rng64 (-1))⟩
 refine wc_skip (qr (lv (rv_assign (v := .int .i64 (-1)) rfl) (nq (wc_ret ?_))))
 obtain rfl := oi D
 have aB := C.sb (sd sz)
 exact er Try.results30 ⟨rfl, trivial⟩ ⟨o, rfl, aB, (by decide : rng64 (-1))⟩

theorem ok_slices_Index_int (F : Nat) {w : World} {K : KMap} {i : Option Addr} {k l : Nat} {p0_s : List Int} {p1_v : Int} {r : Int} (hS : SH w K [] w K []) (c : SliceAt tInt K i k l p0_s) (aa : rng64 p1_v) (hm : M.slices_Index_int F p0_s p1_v = some r) :
  Calls Try.prog 46 #[.slice i k l, .int .i64 p1_v] w fun e w' => ∃ (K' : KMap), e = .returned (.int .i64 r) ∧ SH w K [] w' K' [] ∧ rng64 r := by
 rw [M.slices_Index_int] at hm
 refine calls_in Try.func46 rfl Try.ntmps46 rfl (sr (lv (rv_assign (v := .int .i64 0) rfl) (nsr (mv rfl (lv (rv_len (t := tInt) Try.underlying24 rfl c) (lv (rv_move (v := .int .i64 0) rfl) (nq ?_)))))))
 obtain ⟨A, B, o⟩ := ob hm
 refine wc_cutg (fun E' w' => ∃ q d, A = .inl q ∧ E' = [] ∧ SH w K [] w' d [] ∧ KLe K d) ?_ ?_
 ·refine wc_block ?_
  obtain ⟨ab, C, s⟩ := ob B
  refine qf (fun (x : Nat) (y : Unit) E' w' => ∃ a, E' = [(0, .slice i k l), (1, .int .i64 p1_v), (7, .int .i64 (p0_s.length : Int)), (8, .int .i64 ((x : Nat) : Int))] ∧ SH w K [] w' a [] ∧ KLe K a) C ⟨K, rfl, hS, (KLe.refl _)⟩ ?_ ?_
  ·rintro x y _ D ac hi24 G H ⟨a, rfl, b, f⟩
   refine sr (lv (rv_lss rfl rfl) (ns (wc_cond_t rfl (decide_eq_true (by omega)) (wc_skip (qe_seq (wc_seq (wc_block (sr (mv rfl (av rfl (nr (mv rfl ?_))))))))))))
   refine mv rfl (mv rfl ?_)
   obtain ⟨I, J, O⟩ := ob G
   refine li Try.underlying24 tf3 (c.mono f) J fun R S ad T U => ?_
   obtain ⟨rfl, ae⟩ := T
   have V : AtK _ R S [.int .i64 I] := U
   refine lv (rv_load1 tf3 rfl b (V 0 _ rfl)) (lv (rv_eql rfl rfl) (nq (wcc O rfl (fun W m => ?_) (fun W m => ?_))))
   ·refine sr (mv rfl (av rfl (nq (wc_ret (qe_block_ret (qe_then_ret (qe_then_ret ?_)))))))
    obtain rfl := oi m
    have X := H _ rfl
    subst X
    refine qe_block_ret (qe_then_ret ?_)
    obtain rfl := oi s
    refine qe_then_ret ?_
    obtain rfl := oi o
    exact er Try.results46 ⟨rfl, trivial⟩ ⟨a, rfl, b, (rng_idx hi24 (SliceAt.max c))⟩
   refine wc_skip (qe_block (qg (lv (rv_add_to rfl rfl (w64_succ hi24 (SliceAt.max c))) (mv rfl (wl_nil ?_)))))
   obtain rfl := oi m
   exact qd ⟨_, rfl, a, rfl, b, f⟩
  rintro y _ D Y ⟨a, rfl, b, f⟩
  subst Y
  refine sr (lv (rv_lss rfl rfl) (ns (wc_cond_f rfl (decide_eq_false (by omega)) (wc_exit (qe_then_exit (qe_then_exit (qe_block_eq ?_)))))))
  obtain rfl := oi s
  exact qe_mid' ⟨_, a, rfl, rfl, b, f⟩ trivial
 rintro _ af ⟨q, d, rfl, rfl, Z, ag⟩
 refine qr (lv (rv_assign (v := .int .i64 (-1)) rfl) (nq (wc_ret ?_)))
 obtain rfl := oi o
 exact er Try.results46 ⟨rfl, trivial⟩ ⟨d, rfl, Z, (by decide : rng64 (-1))⟩

theorem ok_slices_Contains_int (F : Nat) {w : World} {K : KMap} {a : Option Addr} {b c : Nat} {p0_s : List Int} {p1_v : Int} {r : Bool} (hS : SH w K [] w K []) (d : SliceAt tInt K a b c p0_s) (f : rng64 p1_v) (hm : M.slices_Contains_int F p0_s p1_v = some r) :
  Calls Try.prog 31 #[.slice a b c, .int .i64 p1_v] w fun e w' => ∃ (K' : KMap), e = .returned (.bool r) ∧ SH w K [] w' K' [] := by
 rw [M.slices_Contains_int] at hm
 refine calls_in Try.func31 rfl Try.ntmps31 rfl (sr (lv (rv_assign (v := .bool false) rfl) (nr (mv rfl (mv rfl ?_)))))
 obtain ⟨q, i, k⟩ := ob hm
 refine lc (vs := [.slice a b c, .int .i64 p1_v]) co46 ((ok_slices_Index_int F) hS.enter0 d f i) ?_
 rintro s x ⟨l, rfl, m, y⟩
 refine ⟨_, rfl, ?_⟩
 have o := (hS.c0 m).t0
 refine lv (rv_geq rfl rfl) (av rfl (nq (wc_ret ?_)))
 obtain rfl := oi k
 exact er Try.results31 ⟨rfl, trivial⟩ ⟨l, rfl, o⟩

set_option maxHeartbeats 2000000 in
theorem ok_impl_selected (F : Nat) {w : World} {K : KMap} {R : Option Addr} {S T : Nat} {A : Option Addr} {B C : Nat} {p0_docs : List GDoc} {p1_ids : List Int} {p2_name : Str} {r : (List Int)} (hS : SH w K [] w K []) (U : SliceAt tGDoc K R S T p0_docs) (an : SliceAt tInt K A B C p1_ids) (ao : p2_name.length ≤ maxLen) (hm : M.impl_selected F p0_docs p1_ids p2_name = some r) :
  Calls Try.prog 16 #[.slice R S T, .slice A B C, sv p2_name] w fun e w' => ∃ (a_1 : Option Addr) (n_2 c_3 : Nat) (K' : KMap), e = .returned (.slice a_1 n_2 c_3) ∧ SH w K [] w' K' [tail (.slice a_1 n_2 c_3) 3 1] ∧ SliceAt tInt K' a_1 n_2 c_3 r := by
 rw [M.impl_selected] at hm
 refine calls_in Try.func16 rfl Try.ntmps16 rfl (sr (lv (rv_assign (v := .slice none 0 0) rfl) (nr (b0 tInt Try.underlying24 tf3 hS fun ap bh aa D aq ar => (av rfl (nsr (mv rfl (lv (rv_len (t := tGDoc) Try.underlying23 rfl (U.mono D)) (lv (rv_move (v := .int .i64 0) rfl) ?_)))))))))
 refine nq ?_
 obtain ⟨au, aw, ax⟩ := ob hm
 refine wc_cutg (fun E' w' => ∃ G H I J, E' = [(7, .slice G H I)] ∧ SH w K [] w' J [tail (.slice G H I) 3 1] ∧ KLe aa J ∧ SliceAt tInt J G H I au) ?_ ?_
 ·refine wc_block ?_
  obtain ⟨bi, ay, az⟩ := ob aw
  refine qF (fun (ab : Nat) (ac : (List Int)) E' w' => ∃ b c d i, E' = [(1, .slice A B C), (2, sv p2_name), (7, .slice b c d), (12, .slice R S T), (13, .int .i64 (p0_docs.length : Int)), (14, .int .i64 ((ab : Nat) : Int))] ∧ SH w K [] w' i [tail (.slice b c d) 3 1] ∧ KLe aa i ∧ SliceAt tInt i b c d ac) ay ⟨ap, 0, 0, aa, rfl, ar, (KLe.refl _), aq⟩ ?_ ?_
  ·rintro ab ac _ aA bj hi41 aB ⟨b, c, d, i, rfl, V, k, W⟩
   refine sr (lv (rv_lss rfl rfl) (ns (wc_cond_t rfl (decide_eq_true (by omega)) (wc_skip (qe_seq (wc_seq (wc_block (sr ?_))))))))
   obtain ⟨f, aC, aD⟩ := ob aB
   refine li Try.underlying23 tf44 (U.mono (D.trans k)) aC fun aE aF bk aG aH => ?_
   obtain ⟨l, m, o, q, s, x, rfl, ag, aI, aJ⟩ := aG
   have aK : AtK _ aE aF [.int .i64 f.Id, .slice l m o, .slice q s x] := aH
   refine lv (rv_loadS (cs := [.int .i64 f.Id, .slice l m o, .slice q s x]) tf44 rfl V aK rfl) (al tf44 V fun aL bl aM => ?_)
   have aN : SH _ _ _ _ _ [obj aL [.int .i64 0, .slice none 0 0, .slice none 0 0] 44, _] := aM
   refine ls [.int .i64 f.Id, .slice l m o, .slice q s x] (.agg #[.int .i64 f.Id, .slice l m o, .slice q s x]) tf44 aN fun bm ad => (nr (lv (rv_loadmS (ds := [.int .i64 f.Id, .slice l m o, .slice q s x]) tf44 rfl m0 ad rfl rfl) (mv rfl ?_)))
   obtain ⟨O, aO, aP⟩ := ob aD
   refine lc (vs := [.agg #[.int .i64 f.Id, .slice l m o, .slice q s x], sv p2_name]) co30 ((ok_impl_DocNum F) ad.enter0 ag aI aJ ao aO) ?_
   rintro bn bo ⟨ah, rfl, y, aQ⟩
   refine ⟨_, rfl, ?_⟩
   have X := (ad.c0 y).t2
   refine av rfl (ns ?_)
   obtain ⟨aR, ai, aS⟩ := ob aP
   refine wc_cutg (fun E' w' => ∃ Y, E' = [(1, .slice A B C), (2, sv p2_name), (7, .slice b c d), (10, .int .i64 O), (12, .slice R S T), (13, .int .i64 (p0_docs.length : Int)), (14, .int .i64 ((ab : Nat) : Int)), (28, .bool aR)] ∧ SH w K [] w' Y [tail (.slice b c d) 3 1] ∧ KLe ah Y) ?_ ?_
   ·refine wc_region (mv rfl (lv (rv_neq rfl rfl) (mv rfl ?_)))
    rcases bool_tf ((!(O == (-1 : Int)))) with a | a
    ·have ae := cond_t a ai
     refine lg a (rv_move rfl) (lg a (rv_fieldAddr ff44_0 rfl) (lg a (rv_loadm1 tf3 rfl m0 X rfl) ?_))
     obtain ⟨bp, aT, aU⟩ := ob ae
     refine wl_call (wg rfl rfl a) rfl (rt_call (vs := [.slice A B C, .int .i64 f.Id]) co31 rfl) ((ok_slices_Contains_int F) X.enter0 (an.mono ((D.trans k).trans y.le)) ag aT) ?_
     rintro bq br ⟨aV, rfl, aj⟩
     refine ⟨_, rfl, ?_⟩
     have aW := (X.c0 aj).t2
     refine lv (rv_pick_t rfl a rfl) (wl_nil ?_)
     obtain rfl := oi aU
     have aX := aW.sb (sd (sk sz))
     exact qd ⟨aV, rfl, aX, aj.le⟩
    have ae := cond_f a ai
    refine lu a (lu a (lu a (lu a (lv (rv_pick_f (v := .bool false) rfl a rfl) (wl_nil ?_)))))
    obtain rfl := oi ae
    have aY := X.sb (sd (sk sz))
    exact qd ⟨ah, rfl, aY, (KLe.refl _)⟩
   rintro _ bs ⟨Y, rfl, ak, Z⟩
   refine qe_seq (wcc aS rfl (fun aZ af => ?_) (fun aZ af => ?_))
   ·refine wc_region (mv rfl (mv rfl (lb tInt (.int .i64 O) [.int .i64 O] O Try.underlying24 tf3 ⟨rfl, aQ⟩ ak fun bt bu bv am a0 a2 => ?_)))
    obtain ⟨bw, a3, a4⟩ := ob af
    refine lp Try.underlying24 tf3 (W.mono ((y.le.trans Z).trans am)) a0 a3 a2.f1 fun a6 a7 a8 bx a9 ba bb bc => (av rfl (nb (qg (lv (rv_add_to rfl rfl (w64_succ hi41 (SliceAt.max (U.mono D)))) (mv rfl (wl_nil ?_))))))
    obtain rfl := oi a4
    have bd := bc.sb (sk (sd sz))
    exact qd ⟨a6, a7, a8, a9, rfl, bd, ((((k.trans y.le).trans Z).trans am).trans ba), bb⟩
   refine wc_skip (qe_block (qg (lv (rv_add_to rfl rfl (w64_succ hi41 (SliceAt.max (U.mono D)))) (mv rfl (wl_nil ?_)))))
   obtain rfl := oi af
   exact qd ⟨b, c, d, Y, rfl, ak, ((k.trans y.le).trans Z), (W.mono (y.le.trans Z))⟩
  rintro ac _ aA be ⟨b, c, d, i, rfl, V, k, W⟩
  subst be
  refine sr (lv (rv_lss rfl rfl) (ns (wc_cond_f rfl (decide_eq_false (by omega)) (wc_exit (qe_then_exit (qe_then_exit (qe_block_eq ?_)))))))
  obtain rfl := oi az
  exact qd ⟨b, c, d, i, rfl, V, k, W⟩
 rintro _ bz ⟨G, H, I, J, rfl, bf, bA, bg⟩
 refine qr (mv rfl (av rfl (nq (wc_ret ?_))))
 obtain rfl := oi ax
 exact er Try.results16 ⟨rfl, trivial⟩ ⟨G, H, I, J, rfl, bf, bg⟩

theorem ok_cmp_Or_int (F : Nat) {w : World} {K : KMap} {f : Option Addr} {i k : Nat} {p0_vals : List Int} {r : Int} (hS : SH w K [] w K []) (l : SliceAt tInt K f i k p0_vals) (hm : M.cmp_Or_int F p0_vals = some r) :
  Calls Try.prog 19 #[.slice f i k] w fun e w' => ∃ (K' : KMap), e = .returned (.int .i64 r) ∧ SH w K [] w' K' [] ∧ rng64 r := by
 rw [M.cmp_Or_int] at hm
 refine calls_in Try.func19 rfl Try.ntmps19 rfl (sr (lv (rv_assign (v := .int .i64 0) rfl) (nr (lv (rv_assign (v := .int .i64 0) rfl) (nsr (mv rfl (lv (rv_len (t := tInt) Try.underlying24 rfl l) (lv (rv_move (v := .int .i64 0) rfl) (nq ?_)))))))))
 obtain ⟨A, B, o⟩ := ob hm
 refine wc_cutg (fun E' w' => ∃ q c, A = .inl q ∧ E' = [(3, .int .i64 0)] ∧ SH w K [] w' c [] ∧ KLe K c) ?_ ?_
 ·refine wc_block ?_
  obtain ⟨ab, C, s⟩ := ob B
  refine qf (fun (x : Nat) (y : Unit) E' w' => ∃ a, E' = [(3, .int .i64 0), (6, .slice f i k), (7, .int .i64 (p0_vals.length : Int)), (8, .int .i64 ((x : Nat) : Int))] ∧ SH w K [] w' a [] ∧ KLe K a) C ⟨K, rfl, hS, (KLe.refl _)⟩ ?_ ?_
  ·rintro x y _ D ac hi23 G H ⟨a, rfl, b, d⟩
   refine sr (lv (rv_lss rfl rfl) (ns (wc_cond_t rfl (decide_eq_true (by omega)) (wc_skip (qe_seq (wc_seq (wc_block (sr ?_))))))))
   obtain ⟨I, J, O⟩ := ob G
   refine li Try.underlying24 tf3 (l.mono d) J fun R S ad T U => ?_
   obtain ⟨rfl, V⟩ := T
   have W : AtK _ R S [.int .i64 I] := U
   refine lv (rv_load1 tf3 rfl b (W 0 _ rfl)) (av rfl (nr (mv rfl (mv rfl (lv (rv_neq rfl rfl) (nq (wcc O rfl (fun X m => ?_) (fun X m => ?_))))))))
   ·refine sr (mv rfl (av rfl (nq (wc_ret (qe_block_ret (qe_then_ret (qe_then_ret ?_)))))))
    obtain rfl := oi m
    have Y := H _ rfl
    subst Y
    refine qe_block_ret (qe_then_ret ?_)
    obtain rfl := oi s
    refine qe_then_ret ?_
    obtain rfl := oi o
    exact er Try.results19 ⟨rfl, trivial⟩ ⟨a, rfl, b, V⟩
   refine wc_skip (qe_block (qg (lv (rv_add_to rfl rfl (w64_succ hi23 (SliceAt.max l))) (mv rfl (wl_nil ?_)))))
   obtain rfl := oi m
   exact qd ⟨_, rfl, a, rfl, b, d⟩
  rintro y _ D Z ⟨a, rfl, b, d⟩
  subst Z
  refine sr (lv (rv_lss rfl rfl) (ns (wc_cond_f rfl (decide_eq_false (by omega)) (wc_exit (qe_then_exit (qe_then_exit (qe_block_eq ?_)))))))
  obtain rfl := oi s
  exact qd ⟨_, a, rfl, rfl, b, d⟩
 rintro _ ae ⟨q, c, rfl, rfl, aa, af⟩
 refine qr (mv rfl (av rfl (nq (wc_ret ?_))))
 obtain rfl := oi o
 exact er Try.results19 ⟨rfl, trivial⟩ ⟨c, rfl, aa, (by decide : rng64 0)⟩

theorem ok_cmp_isNaN_int (F : Nat) {w : World} {K : KMap} {p0_x : Int} {r : Bool} (hS : SH w K [] w K []) (a : rng64 p0_x) (hm : M.cmp_isNaN_int F p0_x = some r) :
  Calls Try.prog 34 #[.int .i64 p0_x] w fun e w' => ∃ (K' : KMap), e = .returned (.bool r) ∧ SH w K [] w' K' [] := by
 rw [M.cmp_isNaN_int] at hm
 refine calls_in Try.func34 rfl Try.ntmps34 rfl (sr (lv (rv_assign (v := .bool false) rfl) (nr (mv rfl (mv rfl (lv (rv_neq rfl rfl) (av rfl (nq (wc_ret ?_)))))))))
 obtain rfl := oi hm
 exact er Try.results34 ⟨rfl, trivial⟩ ⟨K, rfl, hS⟩

theorem ok_cmp_Compare_int (F : Nat) {w : World} {K : KMap} {p0_x : Int} {p1_y : Int} {r : Int} (hS : SH w K [] w K []) (m : rng64 p0_x) (o : rng64 p1_y) (hm : M.cmp_Compare_int F p0_x p1_y = some r) :
  Calls Try.prog 20 #[.int .i64 p0_x, .int .i64 p1_y] w fun e w' => ∃ (K' : KMap), e = .returned (.int .i64 r) ∧ SH w K [] w' K' [] ∧ rng64 r := by
 rw [M.cmp_Compare_int] at hm
 refine calls_in Try.func20 rfl Try.ntmps20 rfl (sr (lv (rv_assign (v := .int .i64 0) rfl) (nr (mv rfl ?_))))
 obtain ⟨J, q, s⟩ := ob hm
 refine lc (vs := [.int .i64 p0_x]) co34 ((ok_cmp_isNaN_int F) hS.enter0 m q) ?_
 rintro O R ⟨S, rfl, x⟩
 refine ⟨_, rfl, ?_⟩
 have l := (hS.c0 x).t0
 refine av rfl (nr (mv rfl ?_))
 obtain ⟨T, y, A⟩ := ob s
 refine lc (vs := [.int .i64 p1_y]) co34 ((ok_cmp_isNaN_int F) l.enter0 o y) ?_
 rintro U V ⟨a, rfl, B⟩
 refine ⟨_, rfl, ?_⟩
 have b := (l.c0 B).t0
 refine av rfl (nsr (mv rfl (nq (wcc A rfl (fun C c => ?_) (fun C c => ?_)))))
 ·refine wc_seq (sr (mv rfl (nq (wcc c rfl (fun D d => ?_) (fun D d => ?_)))))
  ·refine sr (lv (rv_assign (v := .int .i64 0) rfl) (nq (rr (qe_then_ret ?_))))
   obtain rfl := oi d
   exact er Try.results20 ⟨rfl, trivial⟩ ⟨a, rfl, b, (by decide : rng64 0)⟩
  refine wc_skip (qr (lv (rv_assign (v := .int .i64 (-1)) rfl) (nq (rr ?_))))
  obtain rfl := oi d
  exact er Try.results20 ⟨rfl, trivial⟩ ⟨a, rfl, b, (by decide : rng64 (-1))⟩
 refine wc_skip (qs (sr (mv rfl (nq (wcc c rfl (fun G f => ?_) (fun G f => ?_))))))
 ·refine sr (lv (rv_assign (v := .int .i64 1) rfl) (nq (rr ?_)))
  obtain rfl := oi f
  exact er Try.results20 ⟨rfl, trivial⟩ ⟨a, rfl, b, (by decide : rng64 1)⟩
 refine wc_skip (qs (sr (mv rfl (mv rfl (lv (rv_lss rfl rfl) (nq (wcc f rfl (fun H i => ?_) (fun H i => ?_))))))))
 ·refine sr (lv (rv_assign (v := .int .i64 (-1)) rfl) (nq (rr ?_)))
  obtain rfl := oi i
  exact er Try.results20 ⟨rfl, trivial⟩ ⟨a, rfl, b, (by decide : rng64 (-1))⟩
 refine wc_skip (qs (sr (mv rfl (mv rfl (lv (rv_gtr rfl rfl) (nq (wcc i rfl (fun I k => ?_) (fun I k => ?_))))))))
 ·refine sr (lv (rv_assign (v := .int .i64 1) rfl) (nq (rr ?_)))
  obtain rfl := oi k
  exact er Try.results20 ⟨rfl, trivial⟩ ⟨a, rfl, b, (by decide : rng64 1)⟩
 refine wc_skip (qr (lv (rv_assign (v := .int .i64 0) rfl) (nq (wc_ret ?_))))
 obtain rfl := oi k
 exact er Try.results20 ⟨rfl, trivial⟩ ⟨a, rfl, b, (by decide : rng64 0)⟩

theorem ok_impl_FacetOf_1 (F : Nat) {w : World} {K : KMap} {p0_a : GFacet} {p1_b : GFacet} {r : Int} (hS : SH w K [] w K []) (A : rng64 p0_a.Num) (B : rng64 p0_a.Many) (C : rng64 p1_b.Num) (D : rng64 p1_b.Many) (hm : M.impl_FacetOf_1 F p0_a p1_b = some r) :
  Calls Try.prog 18 #[.agg #[.int .i64 p0_a.Num, .int .i64 p0_a.Many], .agg #[.int .i64 p1_b.Num, .int .i64 p1_b.Many]] w fun e w' => ∃ (K' : KMap), e = .returned (.int .i64 r) ∧ SH w K [] w' K' [] ∧ rng64 r := by
 rw [M.impl_FacetOf_1] at hm
 refine calls_in Try.func18 rfl Try.ntmps18 rfl (sr (bx rfl hS fun o w6 G => ?_))
 have H : SH _ _ _ _ _ [obj o [.int .i64 p0_a.Num, .int .i64 p0_a.Many] 34] := G
 refine bx rfl H fun q ae I => ?_
 have J : SH _ _ _ _ _ [obj q [.int .i64 p1_b.Num, .int .i64 p1_b.Many] 34, _] := I
 refine lv (rv_assign (v := .int .i64 0) rfl) (ns (wc_held (fun w' => Holds K w' ∧ HasObj q [.int .i64 p1_b.Num, .int .i64 p1_b.Many] w' ∧ HasObj o [.int .i64 p0_a.Num, .int .i64 p0_a.Many] w') (fun w' => True) 13 [] mixed ?_))
 have a := J.drew
 refine wg_val (i := 0) (listed' := #[true, false, false, false, false, false, false, false, false, false, false, false, false]) (fun _ => True) rfl (by kernel_rfl) (pk_then pk_body) (by kernel_rfl) rfl (by kernel_rfl) (by kernel_rfl) rfl (.inl fun _ _ => trivial) ⟨⟨a.hasK (KLe.refl _), a.hasObj m0, a.hasObj m1⟩, (fun _ => trivial), by decide⟩ wn rfl (fun _ _ => (rv_fieldAddr ff34_1 rfl)) (wg_val (i := 1) (listed' := #[true, true, false, false, false, false, false, false, false, false, false, false, false]) (HasObj q [.int .i64 p1_b.Num, .int .i64 p1_b.Many]) rfl (by kernel_rfl) (pk_then pk_body) (by kernel_rfl) rfl (by kernel_rfl) (by kernel_rfl) rfl (.inl fun _ h => h.2.1) ⟨⟨a.hasK (KLe.refl _), a.hasObj m0, a.hasObj m1⟩, (fun _ => trivial), by decide⟩ wn rfl (fun _ h => rh_loadm1 tf3 rfl rfl h) (wg_val (i := 2) (listed' := #[true, true, true, false, false, false, false, false, false, false, false, false, false]) (fun _ => True) rfl (by kernel_rfl) (pk_then pk_body) (by kernel_rfl) rfl (by kernel_rfl) (by kernel_rfl) rfl (.inl fun _ _ => trivial) ⟨⟨a.hasK (KLe.refl _), a.hasObj m0, a.hasObj m1⟩, (fun _ => trivial), by decide⟩ wn rfl (fun _ _ => (rv_fieldAddr ff34_1 rfl)) ?_))
 refine wg_val (i := 3) (listed' := #[true, true, true, true, false, false, false, false, false, false, false, false, false]) (HasObj o [.int .i64 p0_a.Num, .int .i64 p0_a.Many]) rfl (by kernel_rfl) (pk_then pk_body) (by kernel_rfl) rfl (by kernel_rfl) (by kernel_rfl) rfl (.inl fun _ h => h.2.2) ⟨⟨a.hasK (KLe.refl _), a.hasObj m0, a.hasObj m1⟩, (fun _ => trivial), by decide⟩ wn rfl (fun _ h => rh_loadm1 tf3 rfl rfl h) (wg_val (i := 5) (listed' := #[true, true, true, true, false, true, false, false, false, false, false, false, false]) (fun _ => True) rfl (by kernel_rfl) (pk_then pk_body) (by kernel_rfl) rfl (by kernel_rfl) (by kernel_rfl) rfl (.inl fun _ _ => trivial) ⟨⟨a.hasK (KLe.refl _), a.hasObj m0, a.hasObj m1⟩, (fun _ => trivial), by decide⟩ wn rfl (fun _ _ => (rv_fieldAddr ff34_0 rfl)) (wg_val (i := 6) (listed' := #[true, true, true, true, false, true, true, false, false, false, false, false, false]) (HasObj o [.int .i64 p0_a.Num, .int .i64 p0_a.Many]) rfl (by kernel_rfl) (pk_then pk_body) (by kernel_rfl) rfl (by kernel_rfl) (by kernel_rfl) rfl (.inl fun _ h => h.2.2) ⟨⟨a.hasK (KLe.refl _), a.hasObj m0, a.hasObj m1⟩, (fun _ => trivial), by decide⟩ wn rfl (fun _ h => rh_loadm1 tf3 rfl rfl h) ?_))
 refine wg_val (i := 7) (listed' := #[true, true, true, true, false, true, true, true, false, false, false, false, false]) (fun _ => True) rfl (by kernel_rfl) (pk_then pk_body) (by kernel_rfl) rfl (by kernel_rfl) (by kernel_rfl) rfl (.inl fun _ _ => trivial) ⟨⟨a.hasK (KLe.refl _), a.hasObj m0, a.hasObj m1⟩, (fun _ => trivial), by decide⟩ wn rfl (fun _ _ => (rv_fieldAddr ff34_0 rfl)) (wg_val (i := 8) (listed' := #[true, true, true, true, false, true, true, true, true, false, false, false, false]) (HasObj q [.int .i64 p1_b.Num, .int .i64 p1_b.Many]) rfl (by kernel_rfl) (pk_then pk_body) (by kernel_rfl) rfl (by kernel_rfl) (by kernel_rfl) rfl (.inl fun _ h => h.2.1) ⟨⟨a.hasK (KLe.refl _), a.hasObj m0, a.hasObj m1⟩, (fun _ => trivial), by decide⟩ wn rfl (fun _ h => rh_loadm1 tf3 rfl rfl h) (wg_one (i := 4) (by kernel_rfl) rfl ?_))
 obtain ⟨d, O, R⟩ := ob hm
 refine lc (vs := [.int .i64 p1_b.Many, .int .i64 p0_a.Many]) co20 ((ok_cmp_Compare_int F) a.enter0 D B O) ?_
 rintro af ag ⟨ah, rfl, c, S⟩
 refine ⟨_, rfl, ?_⟩
 have f := (a.c0 c).t2
 refine wl_nil (qe_held (listed' := #[true, true, true, true, true, true, true, true, true, false, false, false, false]) rfl ⟨⟨f.hasK c.le, f.hasObj m0, f.hasObj m1⟩, (fun _ => trivial), by decide⟩ (wg_one (i := 9) (by kernel_rfl) rfl ?_))
 obtain ⟨k, T, U⟩ := ob R
 refine lc (vs := [.int .i64 p0_a.Num, .int .i64 p1_b.Num]) co20 ((ok_cmp_Compare_int F) f.enter0 A C T) ?_
 rintro ai aj ⟨ak, rfl, l, V⟩
 refine ⟨_, rfl, ?_⟩
 have s := (f.c0 l).t2
 refine wl_nil (qe_held (listed' := #[true, true, true, true, true, true, true, true, true, true, false, false, false]) rfl ⟨⟨s.hasK (c.le.trans l.le), s.hasObj m0, s.hasObj m1⟩, (fun _ => trivial), by decide⟩ (wg_one (i := 10) (by kernel_rfl) rfl (wl_buildSlice (t := tInt) (n := 2) (pv := [(0, .int .i64 d), (1, .int .i64 k)]) (cs := [.int .i64 d, .int .i64 k]) (xs := [d, k]) wn rfl Try.underlying24 tf3 rfl rfl rfl (by kernel_rfl) rfl rfl (lit_cons (u := .int .i64 d) (z := d) ⟨rfl, S⟩ (lit_cons (u := .int .i64 k) (z := k) ⟨rfl, V⟩ lit_nil)) s fun W al am x X m => (wl_nil (qe_held (listed' := #[true, true, true, true, true, true, true, true, true, true, true, false, false]) rfl ⟨⟨m.hasK ((c.le.trans l.le).trans x), m.hasObj m1, m.hasObj m2⟩, (fun _ => trivial), by decide⟩ (wg_one (i := 11) (by kernel_rfl) rfl ?_))))))
 obtain ⟨an, Y, Z⟩ := ob U
 refine lc (vs := [.slice W 2 2]) co19 ((ok_cmp_Or_int F) m.enter0 X Y) ?_
 rintro ao ap ⟨aa, rfl, y, ab⟩
 refine ⟨_, rfl, ?_⟩
 have b := (m.c0 y).t3
 refine wl_nil (qe_held (listed' := #[true, true, true, true, true, true, true, true, true, true, true, true, false]) rfl ⟨⟨b.hasK (((c.le.trans l.le).trans x).trans y.le), b.hasObj m1, b.hasObj m2⟩, (fun _ => trivial), by decide⟩ (wg_val (i := 12) (listed' := #[true, true, true, true, true, true, true, true, true, true, true, true, true]) (fun _ => True) rfl (by kernel_rfl) (pk_then pk_body) (by kernel_rfl) rfl (by kernel_rfl) (by kernel_rfl) rfl (.inl fun _ _ => trivial) ⟨⟨b.hasK (((c.le.trans l.le).trans x).trans y.le), b.hasObj m1, b.hasObj m2⟩, (fun _ => trivial), by decide⟩ wn rfl (fun _ _ => (rv_assign rfl)) (wg_done (by kernel_rfl) (qe_seq (wc_ret ?_)))))
 obtain rfl := oi Z
 have ac := b.sb (sd (sd (sd sz)))
 exact er Try.results18 ⟨rfl, trivial⟩ ⟨aa, rfl, ac, ab⟩

set_option maxHeartbeats 2000000 in
theorem ok_impl_FacetOf (F : Nat) {w : World} {K : KMap} {a1 : Option Addr} {n2 c3 : Nat} {a5 : Option Addr} {n6 c7 : Nat} {p0_docs : List GDoc} {p1_ids : List Int} {p2_name : Str} {r : (List GFacet)} (hS : SH w K [] w K []) (hs4 : SliceAt tGDoc K a1 n2 c3 p0_docs) (hs8 : SliceAt tInt K a5 n6 c7 p1_ids) (hl9 : p2_name.length ≤ maxLen) (hm : M.impl_FacetOf F p0_docs p1_ids p2_name = some r) :
  Calls Try.prog 5 #[.slice a1 n2 c3, .slice a5 n6 c7, sv p2_name] w fun e w' => ∃ (a_1 : Option Addr) (n_2 c_3 : Nat) (K' : KMap), e = .returned (.slice a_1 n_2 c_3) ∧ SH w K [] w' K' [tail (.slice a_1 n_2 c_3) 34 2] ∧ SliceAt tGFacet K' a_1 n_2 c_3 r := by
 rw [M.impl_FacetOf] at hm
 refine calls_in Try.func5 rfl Try.ntmps5 rfl ?_
 refine sr ?_
 refine wl_val wn rfl (rv_assign (v := .slice none 0 0) rfl) ?_
 refine nr ?_
 refine wl_buildSlice0 tGFacet wn rfl Try.underlying27 tf34 hS ?_
 intro a70 w70 K70 hl70 hs70 hS70
 refine va rfl rfl ?_
 refine ns ?_
 refine wc_seq ?_
 obtain ⟨o10, h11, h12⟩ := ob hm
 refine wc_cutg (fun E' w' => ∃ (K13 : KMap), E' = [(0, .slice a1 n2 c3), (1, .slice a5 n6 c7), (2, sv p2_name), (7, .slice a70 0 0), (21, .bool o10)] ∧ SH w K [] w' K13 [tail (.slice a70 0 0) 34 2] ∧ KLe K70 K13) ?_ ?_
 ·refine wc_region ?_
  refine vm rfl rfl ?_
  obtain ⟨r17, hx18, h19⟩ := ob h11
  refine wl_call wn rfl (rt_call (vs := [.slice a1 n2 c3]) co8 rfl) ((ok_impl_DocsOk F) hS70.enter0 (SliceAt.mono hl70 hs4) hx18) ?_
  rintro e23 w21 ⟨K20, rfl, hS22⟩
  refine ⟨_, rfl, ?_⟩
  have hS24 : SH _ _ _ _ _ [_] := SH.call0 hS70 hS22
  refine wl_val wn rfl (rv_not rfl) ?_
  refine vm rfl rfl ?_
  rcases bool_tf ((!r17)) with hb25 | hb25
  ·have h26 := cond_t hb25 h19
   refine wl_un (ug rfl rfl hb25) rfl ?_
   refine wl_un (ug rfl rfl hb25) rfl ?_
   refine wl_un (ug rfl rfl hb25) rfl ?_
   refine wl_val wn rfl (rv_pick_t (v := .bool true) rfl hb25 rfl) ?_
   refine wl_nil ?_
   obtain rfl := oi h26
   exact qe_mid' ⟨K20, rfl, hS24, hS22.le⟩ ⟨rfl, rfl, rfl, rfl, rfl, trivial⟩
  ·have h26 := cond_f hb25 h19
   refine wl_val (wg rfl rfl hb25) rfl (rv_move rfl) ?_
   obtain ⟨r27, hx28, h29⟩ := ob h26
   refine wl_call (wg rfl rfl hb25) rfl (rt_call (vs := [.slice a5 n6 c7]) co9 rfl) ((ok_impl_UpOk F) hS24.enter0 (SliceAt.mono (hl70.trans hS22.le) hs8) hx28) ?_
   rintro e33 w31 ⟨K30, rfl, hS32⟩
   refine ⟨_, rfl, ?_⟩
   have hS34 : SH _ _ _ _ _ [_] := SH.call0 hS24 hS32
   refine wl_val (wg rfl rfl hb25) rfl (rv_not rfl) ?_
   refine wl_val wn rfl (rv_pick_f rfl hb25 rfl) ?_
   refine wl_nil ?_
   obtain rfl := oi h29
   exact qe_mid' ⟨K30, rfl, hS34, (hS22.le.trans hS32.le)⟩ ⟨rfl, rfl, rfl, rfl, rfl, trivial⟩
 ·rintro _ w15 ⟨K13, rfl, hS16, hl14⟩
  refine qe_seq ?_
  refine wc_cond rfl (fun hb35 => ?_) (fun hb35 => ?_)
  ·have h36 := cond_t hb35 h12
   refine sr ?_
   refine vm rfl rfl ?_
   refine va rfl rfl ?_
   refine nq ?_
   refine rr ?_
   obtain rfl := oi h36
   exact qe_ret (vs := [_]) Try.results5 ⟨rfl, trivial⟩ ⟨a70, 0, 0, K13, rfl, hS16, hs70.mono hl14⟩
  ·have h36 := cond_f hb35 h12
   refine wc_skip ?_
   refine qr ?_
   refine wl_makeMap wn rfl hS16 ?_
   intro gm w40 hS40
   refine va rfl rfl ?_
   refine nsr ?_
   refine vm rfl rfl ?_
   refine vm rfl rfl ?_
   refine vm rfl rfl ?_
   obtain ⟨nz, hx39, h40⟩ := ob h36
   refine wl_call wn rfl (rt_call (vs := [.slice a1 n2 c3, .slice a5 n6 c7, sv p2_name]) co16 rfl) ((ok_impl_selected F) hS40.enter0 (SliceAt.mono (hl70.trans hl14) hs4) (SliceAt.mono (hl70.trans hl14) hs8) hl9 hx39) ?_
   rintro e48 w42 ⟨a44, n45, c46, K41, rfl, hS43, hs47⟩
   refine ⟨_, rfl, ?_⟩
   have hS49 : SH _ _ _ _ _ [_, _, _] := SH.call0 hS40 hS43
   refine wl_val wn rfl (rv_len (t := tInt) Try.underlying24 rfl hs47) ?_
   refine wl_val wn rfl (rv_move (v := .int .i64 0) rfl) ?_
   refine nq ?_
   have hl50 : KLe K70 K41 := hl14.trans hS43.le
   refine wc_cutg (fun E' w' => ∃ (K51 : KMap), E' = [(7, .slice a70 0 0), (8, .map (some gm))] ∧ SH w K [] w' K51 [mapI gm (countW nz), tail (.slice a70 0 0) 34 2] ∧ KLe K70 K51 ∧ RngM (countW nz)) ?_ ?_
   ·refine wc_block ?_
    refine wc_forE' (fun (i31 : Nat) (s27 : List (Int × Int)) E' w' => ∃ (K32 : KMap), E' = [(7, .slice a70 0 0), (8, .map (some gm)), (27, .slice a44 n45 c46), (28, .int .i64 (nz.length : Int)), (29, .int .i64 ((i31 : Nat) : Int))] ∧ SH w K [] w' K32 [mapI gm s27, tail (.slice a70 0 0) 34 2] ∧ KLe K41 K32 ∧ RngM s27) (forE_fold (fun m n => putM n (w64 (lookM m n + 1)) m) nz nz.length 0 [] (by omega)) ⟨K41, rfl, SH.sublist hS49 (.cons _ (.cons_cons _ (.cons_cons _ .slnil))), (KLe.refl _), RngM.nil⟩ ⟨rfl, rfl, rfl, rfl, rfl, trivial⟩ ?_ ?_
    ·rintro i31 s27 _ w34 r40 hi41 h42 ⟨K32, rfl, hS35, hl33, hr33⟩
     refine sr ?_
     refine wl_val wn rfl (rv_lss rfl rfl) ?_
     refine ns ?_
     refine wc_cond_t rfl (decide_eq_true (by omega)) (wc_skip (qe_seq (wc_seq ?_)))
     refine wc_block ?_
     refine sr ?_
     obtain ⟨x44, hx45, h46⟩ := ob h42
     obtain rfl := oi h46
     refine wl_indexAddr (t := tInt) wn rfl Try.underlying24 tf3 rfl rfl (SliceAt.mono hl33 hs47) hx45 ?_
     intro b47 o48 u49 hu50 ha51
     obtain ⟨rfl, hr52⟩ := hu50
     have ha61 : AtK _ b47 o48 [.int .i64 x44] := ha51
     refine wl_val wn rfl (rv_load1 tf3 rfl hS35 (ha61 0 _ rfl)) ?_
     refine va rfl rfl ?_
     refine nq ?_
     refine wc_region ?_
     refine vm rfl rfl ?_
     refine vm rfl rfl ?_
     refine wl_val wn rfl (rv_lookM Try.underlying47 Try.underlying3 tf3 rfl rfl (.head _) hS35) ?_
     refine wl_val wn rfl (rv_add rfl rfl) ?_
     refine wl_putM wn Try.underlying47 Try.underlying3 rfl rfl rfl hS35 ?_
     intro w53 hS53
     refine nb ?_
     refine qe_seq ?_
     refine wc_region ?_
     refine wl_val wn rfl (rv_add_to rfl rfl (w64_succ hi41 (SliceAt.max hs47))) ?_
     refine vm rfl rfl ?_
     refine wl_nil ?_
     exact qe_mid' ⟨K32, rfl, hS53, hl33, hr33.put hr52 (w64_rng _)⟩ ⟨rfl, rfl, rfl, rfl, rfl, trivial⟩
    ·rintro s27 _ w34 rfl ⟨K32, rfl, hS35, hl33, hr33⟩
     refine sr ?_
     refine wl_val wn rfl (rv_lss rfl rfl) ?_
     refine ns ?_
     refine wc_cond_f rfl (decide_eq_false (by omega)) (wc_exit (qe_then_exit (qe_then_exit (qe_block_eq ?_))))
     exact qe_mid' ⟨K32, rfl, hS35, hl50.trans hl33, hr33⟩ ⟨rfl, rfl, trivial⟩
   ·rintro _ w54 ⟨K51, rfl, hS55, hl56, hr57⟩
    refine qs ?_
    refine sr ?_
    refine vm rfl rfl ?_
    obtain ⟨es, clock, hS58, hin, hst⟩ := hS55.mapOpen
    refine wl_rangeM wn rfl Try.underlying47 rfl hS58 ?_
    intro gi w59 hS59
    refine nq ?_
    obtain ⟨fs, hx60, h61⟩ := ob h40
    have hes : es.toList.length = (countW nz).length := by rw [← hin.pairs, List.length_map]
    have hold : ∀ x ∈ es.toList, x.born < clock := fun x hx => ((MapKept.stamped_iff es clock).1 hst).1 x hx
    have hcat := hx60
    unfold catL at hcat
    split at hcat
    case isFalse => cases hcat
    rename_i hbd
    obtain rfl := oi hcat
    rw [List.length_nil, Nat.zero_add, List.length_map] at hbd
    refine wc_cutg (fun E' w' => ∃ (a62 : Option Addr) (n63 c64 : Nat) (K65 : KMap) (done : List (Int × Int)), E' = [(7, .slice a62 n63 c64)] ∧ SH w K [] w' K65 [tail (.slice a62 n63 c64) 34 2] ∧ KLe K70 K65 ∧ SliceAt tGFacet K65 a62 n63 c64 (done.map facetOf) ∧ (countW nz).Perm done) ?_ ?_
    ·refine wc_block ?_
     refine wc_forE' (n := (countW nz).length) (f := fun _ _ => some ()) (r := ()) (fun (i31 : Nat) (_ : Unit) E' w' => ∃ (a62 : Option Addr) (n63 c64 : Nat) (K65 : KMap) (done : List (Int × Int)) (seen : Array Nat) (c1 : Nat), E' = [(7, .slice a62 n63 c64), (39, .pointer (some ⟨gi, 0, none⟩))] ∧ SH w K [] w' K65 [iterE gi gm clock seen c1, mapE gm es clock, tail (.slice a62 n63 c64) 34 2] ∧ KLe K70 K65 ∧ SliceAt tGFacet K65 a62 n63 c64 (done.map facetOf) ∧ Done es seen done ∧ done.length = i31 ∧ clock ≤ c1) (forE_unit _ _) ⟨a70, 0, 0, K51, [], #[], clock, rfl, hS59, hl56, hs70.mono hl56, done_nil es, rfl, Nat.le_refl _⟩ ⟨rfl, rfl, trivial⟩ ?_ ?_
     ·rintro i31 s27 _ w34 s40 hi41 - ⟨a62, n63, c64, K65, done, seen, c1, rfl, hS66, hl67, hs68, hdn, hlen, hc1⟩
      refine sr ?_
      refine wl_nextM wn rfl rfl hS66 hold hc1 (fun h0 => ?_) (fun e w' he hS69 => ?_)
      ·exfalso
       have := (done_all hdn h0).length_eq
       rw [List.length_map] at this
       omega
      ·refine wl_val wn rfl (rv_extract rfl rfl) ?_
       refine ns ?_
       refine wc_cond_t rfl rfl (wc_skip (qe_seq ?_))
       refine wc_block ?_
       refine sr ?_
       have hme : e ∈ es.toList := (mem_left he).1
       have hkv := hin.entry hme
       have hpr : pairOf e ∈ countW nz := by rw [← hin.pairs]; exact List.mem_map_of_mem hme
       have hrr := hr57 _ hpr
       refine wl_val wn rfl (rv_entryM rfl (.head _) (.tail _ (.head _)) hS69 hme hst) ?_
       refine wl_val wn rfl (rv_extract rfl rfl) ?_
       refine wl_val wn rfl (rv_extract rfl rfl) ?_
       refine va rfl rfl ?_
       refine va rfl rfl ?_
       rw [hkv.1, hkv.2]
       refine nq ?_
       refine wc_region ?_
       refine vm rfl rfl ?_
       refine vm rfl rfl ?_
       refine vm rfl rfl ?_
       refine wl_val wn rfl (rv_build (cs := #[.int .i64 (pairOf e).1, .int .i64 (pairOf e).2]) sp34 tf34 rfl (by kernel_rfl)) ?_
       refine wl_buildSlice (t := tGFacet) (n := 1) (pv := [(0, .agg #[.int .i64 (pairOf e).1, .int .i64 (pairOf e).2])]) (cs := [.int .i64 (pairOf e).1, .int .i64 (pairOf e).2]) (xs := [facetOf (pairOf e)]) wn rfl Try.underlying27 tf34 rfl rfl rfl (by kernel_rfl) rfl rfl (lit_cons (u := .agg #[.int .i64 (pairOf e).1, .int .i64 (pairOf e).2]) (z := facetOf (pairOf e)) ⟨rfl, hrr.1, hrr.2⟩ lit_nil) hS69 ?_
       intro a80 w80 K80 hl80 hs80 hS80
       have hS81 : SH _ _ _ _ _ [_, _, _, _] := SH.front (p := [_, _, _]) hS80
       have hcat : catL 16 (done.map facetOf) [facetOf (pairOf e)] = some ((done ++ [pairOf e]).map facetOf) := by
        unfold catL
        rw [if_pos (by rw [List.length_map, List.length_singleton, hlen]; omega), List.map_append]; rfl
       refine wl_append (t := tGFacet) wn rfl Try.underlying27 tf34 rfl rfl rfl rfl rfl (SliceAt.mono hl80 hs68) hs80 hcat hS81 ?_
       intro a90 n90 c90 w90 K90 hl90 hs90 hS90
       refine va rfl rfl ?_
       refine nb ?_
       have hS91 : SH _ _ _ _ _ [_, _, _, _] := SH.front (p := [_, _]) hS90
       have hS92 : SH _ _ _ _ _ [_, _, _, _] := SH.front (p := [_, _, _]) hS91
       have hS93 : SH _ _ _ _ _ [_, _, _] := (SH.perm hS92 (.swap _ _ _)).sublist (.cons_cons _ (.cons_cons _ (.cons_cons _ (.cons _ .slnil))))
       exact qe_mid' ⟨a90, n90, c90, K90, done ++ [pairOf e], seen.push e.born, clock, rfl, hS93, (hl67.trans hl80).trans hl90, hs90, done_push hdn hst he, by rw [List.length_append, hlen]; rfl, Nat.le_refl _⟩ ⟨rfl, rfl, trivial⟩
     ·rintro s27 _ w34 - ⟨a62, n63, c64, K65, done, seen, c1, rfl, hS66, hl67, hs68, hdn, hlen, hc1⟩
      refine sr ?_
      refine wl_nextM wn rfl rfl hS66 hold hc1 (fun h0 => ?_) (fun e w' he hS69 => ?_)
      ·refine wl_val wn rfl (rv_extract rfl rfl) ?_
       refine ns ?_
       refine wc_cond_f rfl rfl (wc_exit (qe_then_exit (qe_then_exit (qe_block_eq ?_))))
       have hp := done_all hdn h0
       rw [hin.pairs] at hp
       exact qe_mid' ⟨a62, n63, c64, K65, done, rfl, SH.sublist hS66 (.cons _ (.cons _ (.cons_cons _ .slnil))), hl67, hs68, hp.symm⟩ ⟨rfl, trivial⟩
      ·exfalso
       have h2 := done_len (done_push hdn hst he)
       rw [List.length_append, List.length_singleton] at h2
       omega
    ·rintro _ w66 ⟨a62, n63, c64, K65, done, rfl, hS66, hl67, hs68, hpd⟩
     have hso := sortO_perm ((hpd.map facetOf)) h61
     refine qr ?_
     refine vm rfl rfl ?_
     refine wl_call wn rfl (rt_call (vs := [.slice a62 n63 c64, .func (.func 18) #[] #[]]) co17 rfl) (sort_call (T := tGFacet) sortLay17 sortNone17 rfl (fun w => Go.Fk.run_isAgg tf34 w) (fun w => Go.Fk.run_sizeOf tf34 w) (fun a b => M.impl_FacetOf_1 F a b) 18 (Go.Proofs.enters_of Try.func18 (by kernel_rfl) rfl) hS66 hS.holds (fun b hb => by cases hb) hs68 (fun _ _ _ _ _ h => h) (fun K1 W v x u y r hW h1 h2 hm => by
      obtain ⟨rfl, hra, hrb⟩ := h1
      obtain ⟨rfl, hrc, hrd⟩ := h2
      exact (ok_impl_FacetOf_1 F (SH.start hW) hra hrb hrc hrd hm).mono fun e w' ⟨K', he, hS', _⟩ => ⟨K', he, hS'⟩) hso) ?_
     rintro e95 w95 ⟨K95, rfl, hS95, hs95⟩
     refine ⟨_, rfl, ?_⟩
     refine nr ?_
     refine vm rfl rfl ?_
     refine va rfl rfl ?_
     refine nq ?_
     refine wc_ret ?_
     exact qe_ret (vs := [_]) Try.results5 ⟨rfl, trivial⟩ ⟨a62, n63, c64, K95, rfl, hS95, hs95⟩

theorem ok_laws_foFacets (F : Nat) {w : World} {K : KMap} {i : Option Addr} {k l : Nat} {m : Option Addr} {o q : Nat} {p0_a : List GFacet} {p1_b : List GFacet} {r : Bool} (hS : SH w K [] w K []) (s : SliceAt tGFacet K i k l p0_a) (D : SliceAt tGFacet K m o q p1_b) (hm : M.laws_foFacets F p0_a p1_b = some r) :
  Calls Try.prog 6 #[.slice i k l, .slice m o q] w fun e w' => ∃ (K' : KMap), e = .returned (.bool r) ∧ SH w K [] w' K' [] := by
 rw [M.laws_foFacets] at hm
 refine calls_in Try.func6 rfl Try.ntmps6 rfl (sr (lv (rv_assign (v := .bool false) rfl) (nsr (mv rfl (lv (rv_len (t := tGFacet) Try.underlying27 rfl s) (mv rfl (lv (rv_len (t := tGFacet) Try.underlying27 rfl D) (lv (rv_neq rfl rfl) (nq ?_)))))))))
 refine wc_cond rfl (fun x => ?_) (fun x => ?_)
 ·have y := cond_t x hm
  refine sr (lv (rv_assign (v := .bool false) rfl) (nq (rr ?_)))
  obtain rfl := oi y
  exact er Try.results6 ⟨rfl, trivial⟩ ⟨K, rfl, hS⟩
 have y := cond_f x hm
 refine wc_skip (qs (sr (lv (rv_assign (v := .int .i64 0) rfl) (nq ?_))))
 obtain ⟨T, U, G⟩ := ob y
 refine wc_cutg (fun E' w' => ∃ H d, T = .inl H ∧ E' = [] ∧ SH w K [] w' d [] ∧ KLe K d) ?_ ?_
 ·refine wc_block ?_
  obtain ⟨ar, V, I⟩ := ob U
  refine qw (fun (A : Int) E' w' => ∃ f, E' = [(0, .slice i k l), (1, .slice m o q), (5, .int .i64 A)] ∧ SH w K [] w' f [] ∧ KLe K f ∧ rng64 A) V ⟨K, rfl, hS, (KLe.refl _), (by decide : rng64 0)⟩ ?_
  rintro A _ au aw W J ⟨f, rfl, O, c, ax⟩
  refine wc_seq (sr (mv rfl (mv rfl (lv (rv_len (t := tGFacet) Try.underlying27 rfl (s.mono c)) (lv (rv_lss rfl rfl) (nq (wcc W rfl (fun X B => ?_) (fun X B => ?_))))))))
  ·refine wc_skip (qs (wc_block (wc_seq (wc_quiet mixed (by kernel_rfl) O (km rfl (km rfl ?_))))))
   obtain ⟨a, Y, Z⟩ := ob B
   refine ki Try.underlying27 tf34 (s.mono c) Y fun aa ab ay ac ad => ?_
   obtain ⟨rfl, az, aA⟩ := ac
   have ae : AtK _ aa ab [.int .i64 a.Num, .int .i64 a.Many] := ad
   refine kh (rq_loadS (cs := [.int .i64 a.Num, .int .i64 a.Many]) tf34 rfl ae rfl) (km rfl (km rfl ?_))
   obtain ⟨b, af, ag⟩ := ob Z
   refine ki Try.underlying27 tf34 (D.mono c) af fun ah ai aB aj ak => ?_
   obtain ⟨rfl, aC, aD⟩ := aj
   have al : AtK _ ah ai [.int .i64 b.Num, .int .i64 b.Many] := ak
   refine kh (rq_loadS (cs := [.int .i64 b.Num, .int .i64 b.Many]) tf34 rfl al rfl) (kv (rv_neS eqg34 rfl rfl (eqs34 a.Num a.Many b.Num b.Many)) (wq_nil ?_))
   rintro aE ⟨R, S, am⟩
   refine qe_seq (wcc ag rfl (fun an C => ?_) (fun an C => ?_))
   ·refine sr (lv (rv_assign (v := .bool false) rfl) (nq (wc_ret (qe_block_ret (qe_then_ret (qe_then_ret ?_))))))
    obtain rfl := oi C
    have ao := J _ rfl
    subst ao
    refine qe_block_ret (qe_then_ret ?_)
    obtain rfl := oi I
    refine qe_then_ret ?_
    obtain rfl := oi G
    exact er Try.results6 ⟨rfl, trivial⟩ ⟨R, rfl, S⟩
   refine wc_skip (qe_block (qe_seq (wc_region (mv rfl (lv (rv_add rfl rfl) (av rfl (wl_nil ?_)))))))
   obtain rfl := oi C
   exact qd ⟨_, rfl, R, rfl, S, (c.trans am), (w64_rng _)⟩
  refine wc_exit (qe_then_exit (qe_then_exit ?_))
  obtain rfl := oi B
  have ap := J _ rfl
  subst ap
  refine qe_block_eq ?_
  obtain rfl := oi I
  exact qe_mid' ⟨_, f, rfl, rfl, O, c⟩ trivial
 rintro _ aF ⟨H, d, rfl, rfl, aq, aG⟩
 refine qr (lv (rv_assign (v := .bool true) rfl) (nq (wc_ret ?_)))
 obtain rfl := oi G
 exact er Try.results6 ⟨rfl, trivial⟩ ⟨d, rfl, aq⟩

theorem ok_spec_l1In (F : Nat) {w : World} {K : KMap} {p0_n : Int} {p1_low : Int} {p2_high : Int} {r : Bool} (hS : SH w K [] w K []) (c : rng64 p0_n) (d : rng64 p1_low) (f : rng64 p2_high) (hm : M.spec_l1In F p0_n p1_low p2_high = some r) :
  Calls Try.prog 36 #[.int .i64 p0_n, .int .i64 p1_low, .int .i64 p2_high] w fun e w' => ∃ (K' : KMap), e = .returned (.bool r) ∧ SH w K [] w' K' [] := by
 rw [M.spec_l1In] at hm
 refine calls_in Try.func36 rfl Try.ntmps36 rfl (sr (lv (rv_assign (v := .bool false) rfl) (nr (mv rfl (mv rfl (lv (rv_geq rfl rfl) (mv rfl ?_)))))))
 rcases bool_tf (decide (p1_low ≤ p0_n)) with a | a
 ·have b := cond_t a hm
  refine lg a (rv_move rfl) (lg a (rv_move rfl) (lg a (rv_leq rfl rfl) (lv (rv_pick_t rfl a rfl) (av rfl (nq (wc_ret ?_))))))
  obtain rfl := oi b
  exact er Try.results36 ⟨rfl, trivial⟩ ⟨K, rfl, hS⟩
 have b := cond_f a hm
 refine lu a (lu a (lu a (lv (rv_pick_f (v := .bool false) rfl a rfl) (av rfl (nq (wc_ret ?_))))))
 obtain rfl := oi b
 exact er Try.results36 ⟨rfl, trivial⟩ ⟨K, rfl, hS⟩

set_option maxHeartbeats 2000000 in
theorem ok_spec_l1Fold (F : Nat) {w : World} {K : KMap} {p0_b : UInt8} {r : UInt8} (hS : SH w K [] w K []) (hm : M.spec_l1Fold F p0_b = some r) :
  Calls Try.prog 66 #[iv8 p0_b] w fun e w' => ∃ (K' : KMap), e = .returned (iv8 r) ∧ SH w K [] w' K' [] := by
 rw [M.spec_l1Fold] at hm
 refine calls_in Try.func66 rfl Try.ntmps66 rfl (sr (lv (rv_assign (v := iv8 0) rfl) (ns (wc_block (wc_seq ?_)))))
 obtain ⟨H, C, I⟩ := ob hm
 refine wc_cutg (fun E' w' => ∃ c, E' = [(0, iv8 p0_b), (3, .bool H)] ∧ SH w K [] w' c [] ∧ KLe K c) ?_ ?_
 ·refine wc_region (mv rfl (lv (rv_bge (b := (65 : UInt8)) rfl rfl) (mv rfl ?_)))
  rcases bool_tf (decide ((65 : UInt8) ≤ p0_b)) with d | d
  ·have s := cond_t d C
   refine lg d (rv_move rfl) (lg d (rv_ble (b := (90 : UInt8)) rfl rfl) (lv (rv_pick_t rfl d rfl) (av rfl (wl_nil ?_))))
   obtain rfl := oi s
   exact qd ⟨K, rfl, hS, (KLe.refl _)⟩
  have s := cond_f d C
  refine lu d (lu d (lv (rv_pick_f (v := .bool false) rfl d rfl) (av rfl (wl_nil ?_))))
  obtain rfl := oi s
  exact qd ⟨K, rfl, hS, (KLe.refl _)⟩
 rintro _ T ⟨c, rfl, l, U⟩
 refine qe_seq (wcc I rfl (fun J x => ?_) (fun J x => ?_))
 ·refine sr (mv rfl (lv (rv_badd (b := (32 : UInt8)) rfl rfl) (av rfl (nq (wc_ret (qe_block_ret (qe_then_ret ?_)))))))
  obtain rfl := oi x
  exact er Try.results66 ⟨rfl, trivial⟩ ⟨c, rfl, l⟩
 refine wc_seq ?_
 obtain ⟨O, D, R⟩ := ob x
 refine wc_cutg (fun E' w' => ∃ m, E' = [(0, iv8 p0_b), (12, .bool O)] ∧ SH w K [] w' m [] ∧ KLe c m) ?_ ?_
 ·refine wc_region (mv rfl (lv (rv_bge (b := (97 : UInt8)) rfl rfl) (mv rfl ?_)))
  rcases bool_tf (decide ((97 : UInt8) ≤ p0_b)) with f | f
  ·have o := cond_t f D
   refine lg f (rv_move rfl) (lg f (rv_ble (b := (122 : UInt8)) rfl rfl) (lv (rv_pick_t rfl f rfl) (mv rfl ?_)))
   rcases bool_tf (decide (p0_b ≤ (122 : UInt8))) with a | a
   ·have q := cond_t a o
    refine lu a (lu a (lu a (wl_un (uu rfl rfl) rfl (wl_un (uu rfl rfl) rfl (lu a (lv (rv_pick_t (v := .bool true) rfl a rfl) (av rfl (wl_nil ?_))))))))
    obtain rfl := oi q
    exact qd ⟨c, rfl, l, (KLe.refl _)⟩
   have q := cond_f a o
   refine lg a (rv_move rfl) (lg a (rv_bge (b := (48 : UInt8)) rfl rfl) (lg a (rv_move rfl) ?_))
   rcases bool_tf (decide ((48 : UInt8) ≤ p0_b)) with i | i
   ·have y := cond_t i q
    refine lg i (rv_move rfl) (lg i (rv_ble (b := (57 : UInt8)) rfl rfl) (lg a (rv_pick_t rfl i rfl) (lv (rv_pick_f rfl a rfl) (av rfl (wl_nil ?_)))))
    obtain rfl := oi y
    exact qd ⟨c, rfl, l, (KLe.refl _)⟩
   have y := cond_f i q
   refine lu i (lu i (lg a (rv_pick_f (v := .bool false) rfl i rfl) (lv (rv_pick_f rfl a rfl) (av rfl (wl_nil ?_)))))
   obtain rfl := oi y
   exact qd ⟨c, rfl, l, (KLe.refl _)⟩
  have o := cond_f f D
  refine lu f (lu f (lv (rv_pick_f (v := .bool false) rfl f rfl) (mv rfl (lg rfl (rv_move rfl) (lg rfl (rv_bge (b := (48 : UInt8)) rfl rfl) (lg rfl (rv_move rfl) ?_))))))
  rcases bool_tf (decide ((48 : UInt8) ≤ p0_b)) with k | k
  ·have A := cond_t k o
   refine lg k (rv_move rfl) (lg k (rv_ble (b := (57 : UInt8)) rfl rfl) (lg rfl (rv_pick_t rfl k rfl) (lv (rv_pick_f rfl rfl rfl) (av rfl (wl_nil ?_)))))
   obtain rfl := oi A
   exact qd ⟨c, rfl, l, (KLe.refl _)⟩
  have A := cond_f k o
  refine lu k (lu k (lg rfl (rv_pick_f (v := .bool false) rfl k rfl) (lv (rv_pick_f rfl rfl rfl) (av rfl (wl_nil ?_)))))
  obtain rfl := oi A
  exact qd ⟨c, rfl, l, (KLe.refl _)⟩
 rintro _ V ⟨m, rfl, G, W⟩
 refine qe_seq (wcc R rfl (fun S B => ?_) (fun S B => ?_))
 ·refine sr (mv rfl (av rfl (nq (wc_ret (qe_block_ret (qe_then_ret ?_))))))
  obtain rfl := oi B
  exact er Try.results66 ⟨rfl, trivial⟩ ⟨m, rfl, G⟩
 refine wc_skip (qe_block (qr (lv (rv_assign (v := iv8 0) rfl) (nq (wc_ret ?_)))))
 obtain rfl := oi B
 exact er Try.results66 ⟨rfl, trivial⟩ ⟨m, rfl, G⟩
end Go.Proofs.Ytoeajphlomankaa
