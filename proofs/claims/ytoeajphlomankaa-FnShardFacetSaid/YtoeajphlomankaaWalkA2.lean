/-
 Walks of the functions. Printed by gen.py.
-/
import Derived.Test.YtoeajphlomankaaWalkA1
set_option linter.unusedVariables false
set_option maxRecDepth 100000
namespace Go.Proofs.Ytoeajphlomankaa
open Go Go.Fk Go.RowKit

theorem ok_spec_l1WordOk (F : Nat) {w : World} {K : KMap} {p0_s : Str} {r : Bool} (hS : SH w K [] w K []) (I : p0_s.length ≤ maxLen) (hm : M.spec_l1WordOk F p0_s = some r) :
  Calls Try.prog 57 #[sv p0_s] w fun e w' => ∃ (K' : KMap), e = .returned (.bool r) ∧ SH w K [] w' K' [] := by
 rw [M.spec_l1WordOk] at hm
 refine calls_in Try.func57 rfl Try.ntmps57 rfl (sr (lv (rv_assign (v := .bool false) rfl) (nsr (lv (rv_assign (v := .int .i64 0) rfl) (nq ?_)))))
 obtain ⟨J, O, o⟩ := ob hm
 refine wc_cutg (fun E' w' => ∃ q i, J = .inl q ∧ E' = [(0, sv p0_s)] ∧ SH w K [] w' i [] ∧ KLe K i) ?_ ?_
 ·refine wc_block ?_
  obtain ⟨az, R, s⟩ := ob O
  refine qw (fun (f : Int) E' w' => ∃ c, E' = [(0, sv p0_s), (3, .int .i64 f)] ∧ SH w K [] w' c [] ∧ KLe K c ∧ rng64 f) R ⟨K, rfl, hS, (KLe.refl _), (by decide : rng64 0)⟩ ?_
  rintro f _ aA aB S x ⟨c, rfl, y, A, aC⟩
  refine wc_seq (sr (mv rfl (mv rfl (lv (rv_slen Try.underlying9 rfl) (lv (rv_lss rfl rfl) (nq (wcc S rfl (fun T k => ?_) (fun T k => ?_))))))))
  ·refine wc_skip (qs (wc_block (wc_seq ?_)))
   obtain ⟨U, V, W⟩ := ob k
   refine wc_cutg (fun E' w' => ∃ d, E' = [(0, sv p0_s), (3, .int .i64 f), (23, .bool U)] ∧ SH w K [] w' d [] ∧ KLe c d) ?_ ?_
   ·refine wc_quiet mixed (by kernel_rfl) y (km rfl (km rfl ?_))
    obtain ⟨X, Y, Z⟩ := ob V
    refine kv (rv_sidx Try.underlying9 rfl rfl Y) ?_
    obtain ⟨B, aa, ab⟩ := ob Z
    refine wq_call (v := iv8 B) wn rfl (fun _ => rt_call (vs := [iv8 X]) co66 rfl) (fun aD ⟨aE, C, ac⟩ => ((ok_spec_l1Fold F) C.enter0  aa).mono fun e w' ⟨K', he, hS'⟩ => ⟨he, K', C.call0 hS', ac.trans hS'.le⟩) (km rfl (km rfl ?_))
    obtain ⟨ad, ae, D⟩ := ob ab
    refine kv (rv_sidx Try.underlying9 rfl rfl ae) (kv (rv_bne rfl rfl) (km rfl ?_))
    rcases bool_tf ((!(B == ad))) with a | a
    ·have l := cond_t a D
     refine kn a (kn a (kn a (kn a (kv (rv_pick_t (v := .bool true) rfl a rfl) (wq_nil ?_)))))
     rintro aF ⟨af, ag, ah⟩
     obtain rfl := oi l
     exact qd ⟨af, rfl, ag, ah⟩
    have l := cond_f a D
    refine kg a (rv_move rfl) (kg a (rv_move rfl) ?_)
    obtain ⟨aG, ai, aj⟩ := ob l
    refine kg a (rv_sidx Try.underlying9 rfl rfl ai) (kg a (rv_beq (b := (0 : UInt8)) rfl rfl) (kv (rv_pick_f rfl a rfl) (wq_nil ?_)))
    rintro aH ⟨ak, al, am⟩
    obtain rfl := oi aj
    exact qd ⟨ak, rfl, al, am⟩
   rintro _ aI ⟨d, rfl, G, an⟩
   refine qe_seq (wcc W rfl (fun ao m => ?_) (fun ao m => ?_))
   ·refine sr (lv (rv_assign (v := .bool false) rfl) (nq (wc_ret (qe_block_ret (qe_then_ret (qe_then_ret ?_))))))
    obtain rfl := oi m
    have ap := x _ rfl
    subst ap
    refine qe_block_ret (qe_then_ret ?_)
    obtain rfl := oi s
    refine qe_then_ret ?_
    obtain rfl := oi o
    exact er Try.results57 ⟨rfl, trivial⟩ ⟨d, rfl, G⟩
   refine wc_skip (qe_block (qe_seq (wc_region (mv rfl (lv (rv_add rfl rfl) (av rfl (wl_nil ?_)))))))
   obtain rfl := oi m
   exact qd ⟨_, rfl, d, rfl, G, (A.trans an), (w64_rng _)⟩
  refine wc_exit (qe_then_exit (qe_then_exit ?_))
  obtain rfl := oi k
  have aq := x _ rfl
  subst aq
  refine qe_block_eq ?_
  obtain rfl := oi s
  exact qd ⟨_, c, rfl, rfl, y, A⟩
 rintro _ w8 ⟨q, i, rfl, rfl, H, aK⟩
 refine qr (mv rfl (lv (rv_slen Try.underlying9 rfl) ?_))
 obtain ⟨aL, ar, au⟩ := ob o
 refine lc (vs := [.int .i64 (p0_s.length : Int), .int .i64 1, .int .i64 12]) co36 ((ok_spec_l1In F) H.enter0 (rng_nat I) (by decide : rng64 1) (by decide : rng64 12) ar) ?_
 rintro aM aN ⟨aw, rfl, ax⟩
 refine ⟨_, rfl, ?_⟩
 have ay := (H.c0 ax).t0
 refine av rfl (nq (wc_ret ?_))
 obtain rfl := oi au
 exact er Try.results57 ⟨rfl, trivial⟩ ⟨aw, rfl, ay⟩

theorem ok_spec_l1Text (F : Nat) {w : World} {K : KMap} {p0_s : Str} {r : Bool} (hS : SH w K [] w K []) (ac : p0_s.length ≤ maxLen) (hm : M.spec_l1Text F p0_s = some r) :
  Calls Try.prog 58 #[sv p0_s] w fun e w' => ∃ (K' : KMap), e = .returned (.bool r) ∧ SH w K [] w' K' [] := by
 rw [M.spec_l1Text] at hm
 refine calls_in Try.func58 rfl Try.ntmps58 rfl (sr (lv (rv_assign (v := .bool false) rfl) (nsr (lv (rv_assign (v := .int .i64 0) rfl) (nq ?_)))))
 obtain ⟨D, G, q⟩ := ob hm
 refine wc_cutg (fun E' w' => ∃ s f, D = .inl s ∧ E' = [(0, sv p0_s)] ∧ SH w K [] w' f [] ∧ KLe K f) ?_ ?_
 ·refine wc_block ?_
  obtain ⟨ad, H, x⟩ := ob G
  refine qw (fun (i : Int) E' w' => ∃ c, E' = [(0, sv p0_s), (3, .int .i64 i)] ∧ SH w K [] w' c [] ∧ KLe K c ∧ rng64 i) H ⟨K, rfl, hS, (KLe.refl _), (by decide : rng64 0)⟩ ?_
  rintro i _ ae af I y ⟨c, rfl, k, A, ag⟩
  refine wc_seq (sr (mv rfl (mv rfl (lv (rv_slen Try.underlying9 rfl) (lv (rv_lss rfl rfl) (nq (wcc I rfl (fun J l => ?_) (fun J l => ?_))))))))
  ·refine wc_skip (qs (wc_block (wc_seq ?_)))
   obtain ⟨O, R, S⟩ := ob l
   refine wc_cutg (fun E' w' => ∃ d, E' = [(0, sv p0_s), (3, .int .i64 i), (19, .bool O)] ∧ SH w K [] w' d [] ∧ KLe c d) ?_ ?_
   ·refine wc_region (mv rfl (mv rfl ?_))
    obtain ⟨T, U, B⟩ := ob R
    refine lv (rv_sidx Try.underlying9 rfl rfl U) (lv (rv_bl (b := (32 : UInt8)) rfl rfl) (mv rfl ?_))
    rcases bool_tf (decide (T < (32 : UInt8))) with a | a
    ·have m := cond_t a B
     refine lu a (lu a (lu a (lu a (lv (rv_pick_t (v := .bool true) rfl a rfl) (wl_nil ?_)))))
     obtain rfl := oi m
     exact qd ⟨c, rfl, k, (KLe.refl _)⟩
    have m := cond_f a B
    refine lg a (rv_move rfl) (lg a (rv_move rfl) ?_)
    obtain ⟨ah, V, W⟩ := ob m
    refine lg a (rv_sidx Try.underlying9 rfl rfl V) (lg a (rv_bg (b := (126 : UInt8)) rfl rfl) (lv (rv_pick_f rfl a rfl) (wl_nil ?_)))
    obtain rfl := oi W
    exact qd ⟨c, rfl, k, (KLe.refl _)⟩
   rintro _ ai ⟨d, rfl, C, X⟩
   refine qe_seq (wcc S rfl (fun Y o => ?_) (fun Y o => ?_))
   ·refine sr (lv (rv_assign (v := .bool false) rfl) (nq (wc_ret (qe_block_ret (qe_then_ret (qe_then_ret ?_))))))
    obtain rfl := oi o
    have Z := y _ rfl
    subst Z
    refine qe_block_ret (qe_then_ret ?_)
    obtain rfl := oi x
    refine qe_then_ret ?_
    obtain rfl := oi q
    exact er Try.results58 ⟨rfl, trivial⟩ ⟨d, rfl, C⟩
   refine wc_skip (qe_block (qe_seq (wc_region (mv rfl (lv (rv_add rfl rfl) (av rfl (wl_nil ?_)))))))
   obtain rfl := oi o
   exact qd ⟨_, rfl, d, rfl, C, (A.trans X), (w64_rng _)⟩
  refine wc_exit (qe_then_exit (qe_then_exit ?_))
  obtain rfl := oi l
  have aa := y _ rfl
  subst aa
  refine qe_block_eq ?_
  obtain rfl := oi x
  exact qd ⟨_, c, rfl, rfl, k, A⟩
 rintro _ w8 ⟨s, f, rfl, rfl, ab, ak⟩
 refine qr (mv rfl (lv (rv_slen Try.underlying9 rfl) (lv (rv_leq rfl rfl) (av rfl (nq (wc_ret ?_))))))
 obtain rfl := oi q
 exact er Try.results58 ⟨rfl, trivial⟩ ⟨f, rfl, ab⟩

set_option maxHeartbeats 2000000 in
theorem ok_spec_l6Ok (F : Nat) {w : World} {K : KMap} {q : Option Addr} {s x : Nat} {y : Option Addr} {A B : Nat} {p0_d : GDoc} {r : Bool} (hS : SH w K [] w K []) (aZ : rng64 p0_d.Id) (I : SliceAt tGField K q s x p0_d.Fields) (G : SliceAt tGAttr K y A B p0_d.Nums) (hm : M.spec_l6Ok F p0_d = some r) :
  Calls Try.prog 35 #[.agg #[.int .i64 p0_d.Id, .slice q s x, .slice y A B]] w fun e w' => ∃ (K' : KMap), e = .returned (.bool r) ∧ SH w K [] w' K' [] := by
 rw [M.spec_l6Ok] at hm
 refine calls_in Try.func35 rfl Try.ntmps35 rfl (sr (bx rfl hS fun i c6 a0 => ?_))
 have a1 : SH _ _ _ _ _ [obj i [.int .i64 p0_d.Id, .slice q s x, .slice y A B] 44] := a0
 refine lv (rv_assign (v := .bool false) rfl) (nsr (lv (rv_assign (v := .int .i64 0) rfl) (nq ?_)))
 obtain ⟨a3, a4, aw⟩ := ob hm
 refine wc_cutg (fun E' w' => ∃ ax H, a3 = .inl ax ∧ E' = [(1, pt i)] ∧ SH w K [] w' H [obj i [.int .i64 p0_d.Id, .slice q s x, .slice y A B] 44] ∧ KLe K H) ?_ ?_
 ·refine wc_block ?_
  obtain ⟨c7, a5, ay⟩ := ob a4
  refine qw (fun (J : Int) E' w' => ∃ O, E' = [(1, pt i), (3, .int .i64 J)] ∧ SH w K [] w' O [obj i [.int .i64 p0_d.Id, .slice q s x, .slice y A B] 44] ∧ KLe K O ∧ rng64 J) a5 ⟨K, rfl, a1, (KLe.refl _), (by decide : rng64 0)⟩ ?_
  rintro J _ c9 da a7 az ⟨O, rfl, R, S, db⟩
  refine wc_seq (sr (mv rfl (fa ff44_1 rfl (lv (rv_loadm1 tf41 rfl m0 R rfl) (lv (rv_len (t := tGField) Try.underlying41 rfl (I.mono S)) (lv (rv_lss rfl rfl) (nq (wcc a7 rfl (fun a8 ab => ?_) (fun a8 ab => ?_)))))))))
  ·refine wc_skip (qs (wc_block (sr (fa ff44_1 rfl (lv (rv_loadm1 tf41 rfl m0 R rfl) (mv rfl ?_))))))
   obtain ⟨o, a9, ba⟩ := ob ab
   refine li Try.underlying41 tf69 (I.mono S) a9 fun bb bc dc bd be => ?_
   obtain ⟨rfl, bf, bg⟩ := bd
   have bh : AtK _ bb bc [sv o.Name, sv o.Text] := be
   refine lv (rv_loadS (cs := [sv o.Name, sv o.Text]) tf69 rfl R bh rfl) (al tf69 R fun bi dd bj => ?_)
   have bk : SH _ _ _ _ _ [obj bi [sv [], sv []] 69, _] := bj
   refine ls [sv o.Name, sv o.Text] (.agg #[sv o.Name, sv o.Text]) tf69 bk fun de bl => (ns ?_)
   obtain ⟨bm, bn, bo⟩ := ob ba
   refine wc_cutg (fun E' w' => ∃ T, E' = [(1, pt i), (3, .int .i64 J), (43, .bool bm)] ∧ SH w K [] w' T [obj i [.int .i64 p0_d.Id, .slice q s x, .slice y A B] 44] ∧ KLe O T) ?_ ?_
   ·refine wc_quiet mixed (by kernel_rfl) bl (kv (rv_fieldAddr ff69_0 rfl) (kh (rq_loadm1 tf9 rfl m0 rfl) ?_))
    obtain ⟨aA, bp, aB⟩ := ob bn
    refine wq_call (v := .bool aA) wn rfl (fun _ => rt_call (vs := [sv o.Name]) co57 rfl) (fun df ⟨dg, aC, bq⟩ => ((ok_spec_l1WordOk F) aC.enter0 bf bp).mono fun e w' ⟨K', he, hS'⟩ => ⟨he, K', aC.call0 hS', bq.trans hS'.le⟩) (kv (rv_not rfl) (km rfl ?_))
    rcases bool_tf ((!aA)) with k | k
    ·have ac := cond_t k aB
     refine kn k (kn k (kn k (kn k (kv (rv_pick_t (v := .bool true) rfl k rfl) (km rfl (qv rfl rfl rfl rfl (qv rfl rfl rfl rfl (qv rfl rfl rfl rfl (ku ?_)))))))))
     refine ku (ku (ku (ku (ku (ku (ku (ku (ku (qv rfl rfl rfl rfl ?_)))))))))
     refine kv (rv_pick_t (v := .bool true) rfl rfl rfl) (wq_nil ?_)
     rintro dh ⟨br, bs, bt⟩
     obtain rfl := oi ac
     have bu := bs.sb (sd (sk sz))
     exact qd ⟨br, rfl, bu, bt⟩
    have ac := cond_f k aB
    refine kg k (rv_fieldAddr ff69_1 rfl) (kgh k (rq_loadm1 tf9 rfl m0 rfl) ?_)
    obtain ⟨aD, bv, aE⟩ := ob ac
    refine wq_call (v := .bool aD) (wg rfl rfl k) rfl (fun _ => rt_call (vs := [sv o.Text]) co58 rfl) (fun di ⟨dj, aF, bw⟩ => ((ok_spec_l1Text F) aF.enter0 bg bv).mono fun e w' ⟨K', he, hS'⟩ => ⟨he, K', aF.call0 hS', bw.trans hS'.le⟩) (kg k (rv_not rfl) (kv (rv_pick_f rfl k rfl) (km rfl ?_)))
    rcases bool_tf ((!aD)) with d | d
    ·have X := cond_t d aE
     refine kn d (kn d (kn d (ku (ku (ku (ku (ku (ku (ku ?_)))))))))
     refine ku (ku (ku (kn d (kv (rv_pick_t (v := .bool true) rfl d rfl) (wq_nil ?_)))))
     rintro dk ⟨bz, bA, bB⟩
     obtain rfl := oi X
     have bC := bA.sb (sd (sk sz))
     exact qd ⟨bz, rfl, bC, bB⟩
    have X := cond_f d aE
    refine kg d (rv_move rfl) (kg d (rv_gtr rfl rfl) (kg d (rv_move rfl) ?_))
    rcases bool_tf (decide ((0 : Int) < J)) with b | b
    ·have ad := cond_t b X
     refine kg b (rv_fieldAddr ff69_0 rfl) (kgh b (rq_loadm1 tf9 rfl m0 rfl) (kg b (rv_fieldAddr ff44_1 rfl) (kgh b (rq_loadm1 tf41 rfl m1 rfl) (kg b (rv_move rfl) (kg b (rv_sub rfl rfl) ?_)))))
     obtain ⟨aG, bD, bE⟩ := ob ad
     refine wq_indexAddr (t := tGField) (wg rfl rfl b) rfl Try.underlying41 tf69 rfl rfl (I.mono S) bD fun bF bG dl bH bI => ?_
     obtain ⟨rfl, dm, dn⟩ := bH
     have bJ : AtK _ bF bG [sv aG.Name, sv aG.Text] := bI
     refine kg b (rv_fieldAddr ff69_0 rfl) (kgh b (rq_load1 tf9 rfl (bJ 0 _ rfl)) (kg b (rv_sleq rfl rfl) (kg d (rv_pick_t rfl b rfl) (kv (rv_pick_f rfl d rfl) (wq_nil ?_)))))
     rintro dp ⟨bK, bL, bM⟩
     obtain rfl := oi bE
     have bN := bL.sb (sd (sk sz))
     exact qd ⟨bK, rfl, bN, bM⟩
    have ad := cond_f b X
    refine kn b (kn b (kn b (kn b (kn b (kn b (kn b (kn b (kn b (kn b ?_)))))))))
    refine kg d (rv_pick_f (v := .bool false) rfl b rfl) (kv (rv_pick_f rfl d rfl) (wq_nil ?_))
    rintro dq ⟨bO, bP, bQ⟩
    obtain rfl := oi ad
    have bR := bP.sb (sd (sk sz))
    exact qd ⟨bO, rfl, bR, bQ⟩
   rintro _ dr ⟨T, rfl, aH, bS⟩
   refine qe_seq (wcc bo rfl (fun bT ae => ?_) (fun bT ae => ?_))
   ·refine sr (lv (rv_assign (v := .bool false) rfl) (nq (wc_ret (qe_block_ret (qe_then_ret (qe_then_ret ?_))))))
    obtain rfl := oi ae
    have bU := az _ rfl
    subst bU
    refine qe_block_ret (qe_then_ret ?_)
    obtain rfl := oi ay
    refine qe_then_ret ?_
    obtain rfl := oi aw
    have bV := aH.sb (sd sz)
    exact er Try.results35 ⟨rfl, trivial⟩ ⟨T, rfl, bV⟩
   refine wc_skip (qe_block (qe_seq (wc_region (mv rfl (lv (rv_add rfl rfl) (av rfl (wl_nil ?_)))))))
   obtain rfl := oi ae
   exact qd ⟨_, rfl, T, rfl, aH, (S.trans bS), (w64_rng _)⟩
  refine wc_exit (qe_then_exit (qe_then_exit ?_))
  obtain rfl := oi ab
  have bW := az _ rfl
  subst bW
  refine qe_block_eq ?_
  obtain rfl := oi ay
  exact qd ⟨_, O, rfl, rfl, R, S⟩
 rintro _ ds ⟨ax, H, rfl, rfl, bX, C⟩
 refine qs (sr (lv (rv_assign (v := .int .i64 0) rfl) (nq ?_)))
 obtain ⟨bY, bZ, aI⟩ := ob aw
 refine wc_cutg (fun E' w' => ∃ aJ af, bY = .inl aJ ∧ E' = [(1, pt i)] ∧ SH w K [] w' af [obj i [.int .i64 p0_d.Id, .slice q s x, .slice y A B] 44] ∧ KLe H af) ?_ ?_
 ·refine wc_block ?_
  obtain ⟨dt, b0, aK⟩ := ob bZ
  refine qw (fun (U : Int) E' w' => ∃ V, E' = [(1, pt i), (5, .int .i64 U)] ∧ SH w K [] w' V [obj i [.int .i64 p0_d.Id, .slice q s x, .slice y A B] 44] ∧ KLe H V ∧ rng64 U) b0 ⟨H, rfl, bX, (KLe.refl _), (by decide : rng64 0)⟩ ?_
  rintro U _ du dv b1 aL ⟨V, rfl, ag, D, dw⟩
  refine wc_seq (sr (mv rfl (fa ff44_2 rfl (lv (rv_loadm1 tf42 rfl m0 ag rfl) (lv (rv_len (t := tGAttr) Try.underlying42 rfl (G.mono (C.trans D))) (lv (rv_lss rfl rfl) (nq (wcc b1 rfl (fun b2 ah => ?_) (fun b2 ah => ?_)))))))))
  ·refine wc_skip (qs (wc_block (wc_seq ?_)))
   obtain ⟨b3, b4, b5⟩ := ob ah
   refine wc_cutg (fun E' w' => ∃ W, E' = [(1, pt i), (5, .int .i64 U), (88, .bool b3)] ∧ SH w K [] w' W [obj i [.int .i64 p0_d.Id, .slice q s x, .slice y A B] 44] ∧ KLe V W) ?_ ?_
   ·refine wc_quiet mixed (by kernel_rfl) ag (kv (rv_fieldAddr ff44_2 rfl) (kh (rq_loadm1 tf42 rfl m0 rfl) (km rfl ?_)))
    obtain ⟨ai, b6, b7⟩ := ob b4
    refine ki Try.underlying42 tf72 (G.mono (C.trans D)) b6 fun b8 b9 dx ca cb => ?_
    obtain ⟨rfl, cc, dy⟩ := ca
    have cd : AtK _ b8 b9 [sv ai.Name, .int .i64 ai.Num] := cb
    refine kv (rv_fieldAddr ff72_0 rfl) (kh (rq_load1 tf9 rfl (cd 0 _ rfl)) ?_)
    obtain ⟨aM, ce, aN⟩ := ob b7
    refine wq_call (v := .bool aM) wn rfl (fun _ => rt_call (vs := [sv ai.Name]) co57 rfl) (fun dz ⟨dA, aO, cf⟩ => ((ok_spec_l1WordOk F) aO.enter0 cc ce).mono fun e w' ⟨K', he, hS'⟩ => ⟨he, K', aO.call0 hS', cf.trans hS'.le⟩) (kv (rv_not rfl) (km rfl ?_))
    rcases bool_tf ((!aM)) with c | c
    ·have aj := cond_t c aN
     refine kn c (kn c (kn c (kn c (kn c (kn c (kn c (kn c (kv (rv_pick_t (v := .bool true) rfl c rfl) (km rfl ?_)))))))))
     refine qv rfl rfl rfl rfl (qv rfl rfl rfl rfl (qv rfl rfl rfl rfl (ku (ku (ku (ku (ku (ku (ku ?_)))))))))
     refine ku (ku (ku (ku (ku (ku (ku (qv rfl rfl rfl rfl (kv (rv_pick_t (v := .bool true) rfl rfl rfl) (wq_nil ?_)))))))))
     rintro dB ⟨cg, ch, ci⟩
     obtain rfl := oi aj
     exact qd ⟨cg, rfl, ch, ci⟩
    have aj := cond_f c aN
    refine kg c (rv_fieldAddr ff44_2 rfl) (kgh c (rq_loadm1 tf42 rfl m0 rfl) (kg c (rv_move rfl) ?_))
    obtain ⟨ak, cj, ck⟩ := ob aj
    refine wq_indexAddr (t := tGAttr) (wg rfl rfl c) rfl Try.underlying42 tf72 rfl rfl (G.mono (C.trans D)) cj fun cl cm dC cn cp => ?_
    obtain ⟨rfl, dD, cq⟩ := cn
    have cr : AtK _ cl cm [sv ak.Name, .int .i64 ak.Num] := cp
    refine kg c (rv_fieldAddr ff72_1 rfl) (kgh c (rq_load1 tf3 rfl (cr 1 _ rfl)) ?_)
    obtain ⟨aP, ct, aQ⟩ := ob ck
    refine wq_call (v := .bool aP) (wg rfl rfl c) rfl (fun _ => rt_call (vs := [.int .i64 ak.Num, .int .i64 0, .int .i64 999999999]) co36 rfl) (fun dE ⟨dF, aR, cu⟩ => ((ok_spec_l1In F) aR.enter0 cq (by decide : rng64 0) (by decide : rng64 999999999) ct).mono fun e w' ⟨K', he, hS'⟩ => ⟨he, K', aR.call0 hS', cu.trans hS'.le⟩) (kg c (rv_not rfl) (kv (rv_pick_f rfl c rfl) (km rfl ?_)))
    rcases bool_tf ((!aP)) with f | f
    ·have Y := cond_t f aQ
     refine kn f (kn f (kn f (ku (ku (ku (ku (ku (ku (ku ?_)))))))))
     refine ku (ku (ku (ku (ku (ku (ku (kn f (kv (rv_pick_t (v := .bool true) rfl f rfl) (wq_nil ?_)))))))))
     rintro dG ⟨cv, cw, cx⟩
     obtain rfl := oi Y
     exact qd ⟨cv, rfl, cw, cx⟩
    have Y := cond_f f aQ
    refine kg f (rv_move rfl) (kg f (rv_gtr rfl rfl) (kg f (rv_move rfl) ?_))
    rcases bool_tf (decide ((0 : Int) < U)) with a | a
    ·have am := cond_t a Y
     refine kg a (rv_fieldAddr ff44_2 rfl) (kgh a (rq_loadm1 tf42 rfl m0 rfl) (kg a (rv_move rfl) ?_))
     obtain ⟨aS, cy, cz⟩ := ob am
     refine wq_indexAddr (t := tGAttr) (wg rfl rfl a) rfl Try.underlying42 tf72 rfl rfl (G.mono (C.trans D)) cy fun cA cB dH cC cD => ?_
     obtain ⟨rfl, dI, dJ⟩ := cC
     have cE : AtK _ cA cB [sv aS.Name, .int .i64 aS.Num] := cD
     refine kg a (rv_fieldAddr ff72_0 rfl) (kgh a (rq_load1 tf9 rfl (cE 0 _ rfl)) (kg a (rv_fieldAddr ff44_2 rfl) (kgh a (rq_loadm1 tf42 rfl m0 rfl) (kg a (rv_move rfl) (kg a (rv_sub rfl rfl) ?_)))))
     obtain ⟨aT, cF, cG⟩ := ob cz
     refine wq_indexAddr (t := tGAttr) (wg rfl rfl a) rfl Try.underlying42 tf72 rfl rfl (G.mono (C.trans D)) cF fun cH cI dK cJ cK => ?_
     obtain ⟨rfl, dL, dM⟩ := cJ
     have cL : AtK _ cH cI [sv aT.Name, .int .i64 aT.Num] := cK
     refine kg a (rv_fieldAddr ff72_0 rfl) (kgh a (rq_load1 tf9 rfl (cL 0 _ rfl)) (kg a (rv_sleq rfl rfl) (kg f (rv_pick_t rfl a rfl) (kv (rv_pick_f rfl f rfl) (wq_nil ?_)))))
     rintro dN ⟨cM, cN, cO⟩
     obtain rfl := oi cG
     exact qd ⟨cM, rfl, cN, cO⟩
    have am := cond_f a Y
    refine kn a (kn a (kn a (kn a (kn a (kn a (kn a (kn a (kn a (kn a ?_)))))))))
    refine kn a (kn a (kn a (kn a (kg f (rv_pick_f (v := .bool false) rfl a rfl) (kv (rv_pick_f rfl f rfl) (wq_nil ?_))))))
    rintro dO ⟨cP, cQ, cR⟩
    obtain rfl := oi am
    exact qd ⟨cP, rfl, cQ, cR⟩
   rintro _ dP ⟨W, rfl, aU, cS⟩
   refine qe_seq (wcc b5 rfl (fun cT an => ?_) (fun cT an => ?_))
   ·refine sr (lv (rv_assign (v := .bool false) rfl) (nq (wc_ret (qe_block_ret (qe_then_ret (qe_then_ret ?_))))))
    obtain rfl := oi an
    have cU := aL _ rfl
    subst cU
    refine qe_block_ret (qe_then_ret ?_)
    obtain rfl := oi aK
    refine qe_then_ret ?_
    obtain rfl := oi aI
    have cV := aU.sb (sd sz)
    exact er Try.results35 ⟨rfl, trivial⟩ ⟨W, rfl, cV⟩
   refine wc_skip (qe_block (qe_seq (wc_region (mv rfl (lv (rv_add rfl rfl) (av rfl (wl_nil ?_)))))))
   obtain rfl := oi an
   exact qd ⟨_, rfl, W, rfl, aU, (D.trans cS), (w64_rng _)⟩
  refine wc_exit (qe_then_exit (qe_then_exit ?_))
  obtain rfl := oi ah
  have cW := aL _ rfl
  subst cW
  refine qe_block_eq ?_
  obtain rfl := oi aK
  exact qd ⟨_, V, rfl, rfl, ag, D⟩
 rintro _ dQ ⟨aJ, af, rfl, rfl, ao, ap⟩
 refine qr (fa ff44_0 rfl (lv (rv_loadm1 tf3 rfl m0 ao rfl) ?_))
 obtain ⟨cX, cY, aV⟩ := ob aI
 refine lc (vs := [.int .i64 p0_d.Id, .int .i64 1, .int .i64 9999]) co36 ((ok_spec_l1In F) ao.enter0 aZ (by decide : rng64 1) (by decide : rng64 9999) cY) ?_
 rintro dR dS ⟨cZ, rfl, Z⟩
 refine ⟨_, rfl, ?_⟩
 have aa := (ao.c0 Z).t1
 refine mv rfl ?_
 rcases bool_tf (cX) with l | l
 ·have aq := cond_t l aV
  refine lg l (rv_fieldAddr ff44_1 rfl) (lg l (rv_loadm1 tf41 rfl m0 aa rfl) (lg l (rv_len (t := tGField) Try.underlying41 rfl (I.mono ((C.trans ap).trans Z.le))) ?_))
  obtain ⟨c0, c1, aW⟩ := ob aq
  refine wl_call (wg rfl rfl l) rfl (rt_call (vs := [.int .i64 (p0_d.Fields.length : Int), .int .i64 0, .int .i64 3]) co36 rfl) ((ok_spec_l1In F) aa.enter0 (rng_nat (SliceAt.max (I.mono ((C.trans ap).trans Z.le)))) (by decide : rng64 0) (by decide : rng64 3) c1) ?_
  rintro dT dU ⟨aX, rfl, aY⟩
  refine ⟨_, rfl, ?_⟩
  have ar := (aa.c0 aY).t1
  refine lv (rv_pick_t rfl l rfl) (mv rfl ?_)
  rcases bool_tf (c0) with m | m
  ·have au := cond_t m aW
   refine lg m (rv_fieldAddr ff44_2 rfl) (lg m (rv_loadm1 tf42 rfl m0 ar rfl) (lg m (rv_len (t := tGAttr) Try.underlying42 rfl (SliceAt.mono (((C.trans ap).trans Z.le).trans aY.le) G)) (lg m (rv_leq rfl rfl) (lv (rv_pick_t rfl m rfl) (av rfl (nq (wc_ret ?_)))))))
   obtain rfl := oi au
   have c2 := ar.sb (sd sz)
   exact er Try.results35 ⟨rfl, trivial⟩ ⟨aX, rfl, c2⟩
  have au := cond_f m aW
  refine lu m (lu m (lu m (lu m (lv (rv_pick_f (v := .bool false) rfl m rfl) (av rfl (nq (wc_ret ?_)))))))
  obtain rfl := oi au
  have c3 := ar.sb (sd sz)
  exact er Try.results35 ⟨rfl, trivial⟩ ⟨aX, rfl, c3⟩
 have aq := cond_f l aV
 refine lu l (lu l (lu l (lu l (lv (rv_pick_f (v := .bool false) rfl l rfl) (mv rfl (lu rfl (lu rfl (lu rfl (lu rfl ?_)))))))))
 refine lv (rv_pick_f (v := .bool false) rfl rfl rfl) (av rfl (nq (wc_ret ?_)))
 obtain rfl := oi aq
 have c5 := aa.sb (sd sz)
 exact er Try.results35 ⟨rfl, trivial⟩ ⟨cZ, rfl, c5⟩

set_option maxHeartbeats 2000000 in
theorem ok_spec_l6Docs (F : Nat) {w : World} {K : KMap} {d : Option Addr} {f i : Nat} {p0_list : List GDoc} {r : Bool} (hS : SH w K [] w K []) (k : SliceAt tGDoc K d f i p0_list) (hm : M.spec_l6Docs F p0_list = some r) :
  Calls Try.prog 21 #[.slice d f i] w fun e w' => ∃ (K' : KMap), e = .returned (.bool r) ∧ SH w K [] w' K' [] := by
 rw [M.spec_l6Docs] at hm
 refine calls_in Try.func21 rfl Try.ntmps21 rfl (sr (lv (rv_assign (v := .bool false) rfl) (nsr (lv (rv_assign (v := .int .i64 0) rfl) (nq ?_)))))
 obtain ⟨o5, h6, R⟩ := ob hm
 refine wc_cutg (fun E' w' => ∃ S q, o5 = .inl S ∧ E' = [(0, .slice d f i)] ∧ SH w K [] w' q [] ∧ KLe K q) ?_ ?_
 ·refine wc_block ?_
  obtain ⟨be, ac, T⟩ := ob h6
  refine qw (fun (l : Int) E' w' => ∃ m, E' = [(0, .slice d f i), (3, .int .i64 l)] ∧ SH w K [] w' m [] ∧ KLe K m ∧ rng64 l) ac ⟨K, rfl, hS, (KLe.refl _), (by decide : rng64 0)⟩ ?_
  rintro l _ bf bg ad U ⟨m, rfl, V, c, bh⟩
  refine wc_seq (sr (mv rfl (mv rfl (lv (rv_len (t := tGDoc) Try.underlying23 rfl (k.mono c)) (lv (rv_lss rfl rfl) (nq (wcc ad rfl (fun ae x => ?_) (fun ae x => ?_))))))))
  ·refine wc_skip (qs (wc_block (wc_seq ?_)))
   obtain ⟨af, ag, ah⟩ := ob x
   refine wc_cutg (fun E' w' => ∃ o, E' = [(0, .slice d f i), (3, .int .i64 l), (33, .bool af)] ∧ SH w K [] w' o [] ∧ KLe m o) ?_ ?_
   ·refine wc_quiet mixed (by kernel_rfl) V (km rfl (km rfl ?_))
    obtain ⟨y, ai, aj⟩ := ob ag
    refine ki Try.underlying23 tf44 (k.mono c) ai fun ak al bi am an => ?_
    obtain ⟨A, B, C, D, G, H, rfl, ao, ap, aq⟩ := am
    have ar : AtK _ ak al [.int .i64 y.Id, .slice A B C, .slice D G H] := an
    refine kh (rq_loadS (cs := [.int .i64 y.Id, .slice A B C, .slice D G H]) tf44 rfl ar rfl) ?_
    obtain ⟨W, au, X⟩ := ob aj
    refine wq_call (v := .bool W) wn rfl (fun _ => rt_call (vs := [.agg #[.int .i64 y.Id, .slice A B C, .slice D G H]]) co35 rfl) (fun bj ⟨bk, Y, I⟩ => ((ok_spec_l6Ok F) Y.enter0 ao (ap.mono I) (aq.mono I) au).mono fun e w' ⟨K', he, hS'⟩ => ⟨he, K', Y.call0 hS', I.trans hS'.le⟩) (kv (rv_not rfl) (km rfl ?_))
    rcases bool_tf ((!W)) with b | b
    ·have s := cond_t b X
     refine kn b (kn b (kn b (ku (ku (ku (ku (ku (ku (ku ?_)))))))))
     refine ku (ku (ku (ku (ku (kn b (kv (rv_pick_t (v := .bool true) rfl b rfl) (wq_nil ?_)))))))
     rintro bl ⟨aw, ax, ay⟩
     obtain rfl := oi s
     exact qd ⟨aw, rfl, ax, ay⟩
    have s := cond_f b X
    refine kg b (rv_move rfl) (kg b (rv_gtr rfl rfl) (kg b (rv_move rfl) ?_))
    rcases bool_tf (decide ((0 : Int) < l)) with a | a
    ·have J := cond_t a s
     refine kg a (rv_move rfl) (kg a (rv_move rfl) ?_)
     obtain ⟨az, aA, aB⟩ := ob J
     refine wq_indexAddr (t := tGDoc) (wg rfl rfl a) rfl Try.underlying23 tf44 rfl rfl (k.mono c) aA fun aC aD bm aE aF => ?_
     obtain ⟨aG, aH, aI, aJ, aK, aL, rfl, bn, bo, bp⟩ := aE
     have aM : AtK _ aC aD [.int .i64 az.Id, .slice aG aH aI, .slice aJ aK aL] := aF
     refine kg a (rv_fieldAddr ff44_0 rfl) (kgh a (rq_load1 tf3 rfl (aM 0 _ rfl)) (kg a (rv_move rfl) (kg a (rv_move rfl) (kg a (rv_sub rfl rfl) ?_))))
     obtain ⟨aN, aO, aP⟩ := ob aB
     refine wq_indexAddr (t := tGDoc) (wg rfl rfl a) rfl Try.underlying23 tf44 rfl rfl (k.mono c) aO fun aQ aR bq aS aT => ?_
     obtain ⟨aU, aV, aW, aX, aY, aZ, rfl, br, bs, bt⟩ := aS
     have a0 : AtK _ aQ aR [.int .i64 aN.Id, .slice aU aV aW, .slice aX aY aZ] := aT
     refine kg a (rv_fieldAddr ff44_0 rfl) (kgh a (rq_load1 tf3 rfl (a0 0 _ rfl)) (kg a (rv_leq rfl rfl) (kg b (rv_pick_t rfl a rfl) (kv (rv_pick_f rfl b rfl) (wq_nil ?_)))))
     rintro bu ⟨a2, a3, a4⟩
     obtain rfl := oi aP
     exact qd ⟨a2, rfl, a3, a4⟩
    have J := cond_f a s
    refine kn a (kn a (kn a (kn a (kn a (kn a (kn a (kn a (kn a (kn a ?_)))))))))
    refine kn a (kn a (kg b (rv_pick_f (v := .bool false) rfl a rfl) (kv (rv_pick_f rfl b rfl) (wq_nil ?_))))
    rintro bv ⟨a5, a6, a7⟩
    obtain rfl := oi J
    exact qd ⟨a5, rfl, a6, a7⟩
   rintro _ w32 ⟨o, rfl, Z, a8⟩
   refine qe_seq (wcc ah rfl (fun a9 O => ?_) (fun a9 O => ?_))
   ·refine sr (lv (rv_assign (v := .bool false) rfl) (nq (wc_ret (qe_block_ret (qe_then_ret (qe_then_ret ?_))))))
    obtain rfl := oi O
    have ba := U _ rfl
    subst ba
    refine qe_block_ret (qe_then_ret ?_)
    obtain rfl := oi T
    refine qe_then_ret ?_
    obtain rfl := oi R
    exact er Try.results21 ⟨rfl, trivial⟩ ⟨o, rfl, Z⟩
   refine wc_skip (qe_block (qe_seq (wc_region (mv rfl (lv (rv_add rfl rfl) (av rfl (wl_nil ?_)))))))
   obtain rfl := oi O
   exact qd ⟨_, rfl, o, rfl, Z, (c.trans a8), (w64_rng _)⟩
  refine wc_exit (qe_then_exit (qe_then_exit ?_))
  obtain rfl := oi x
  have bb := U _ rfl
  subst bb
  refine qe_block_eq ?_
  obtain rfl := oi T
  exact qd ⟨_, m, rfl, rfl, V, c⟩
 rintro _ bw ⟨S, q, rfl, rfl, bc, bd⟩
 refine qr (mv rfl (lv (rv_len (t := tGDoc) Try.underlying23 rfl (k.mono bd)) (lv (rv_leq rfl rfl) (av rfl (nq (wc_ret ?_))))))
 obtain rfl := oi R
 exact er Try.results21 ⟨rfl, trivial⟩ ⟨q, rfl, bc⟩

set_option maxHeartbeats 2000000 in
theorem ok_spec_l3Up (F : Nat) {w : World} {K : KMap} {d : Option Addr} {f i : Nat} {p0_list : List Int} {r : Bool} (hS : SH w K [] w K []) (k : SliceAt tInt K d f i p0_list) (hm : M.spec_l3Up F p0_list = some r) :
  Calls Try.prog 22 #[.slice d f i] w fun e w' => ∃ (K' : KMap), e = .returned (.bool r) ∧ SH w K [] w' K' [] := by
 rw [M.spec_l3Up] at hm
 refine calls_in Try.func22 rfl Try.ntmps22 rfl (sr (lv (rv_assign (v := .bool false) rfl) (nsr (lv (rv_assign (v := .int .i64 0) rfl) (nq ?_)))))
 obtain ⟨T, U, B⟩ := ob hm
 refine wc_cutg (fun E' w' => ∃ C q, T = .inl C ∧ E' = [(0, .slice d f i)] ∧ SH w K [] w' q [] ∧ KLe K q) ?_ ?_
 ·refine wc_block ?_
  obtain ⟨aT, V, D⟩ := ob U
  refine qw (fun (l : Int) E' w' => ∃ m, E' = [(0, .slice d f i), (3, .int .i64 l)] ∧ SH w K [] w' m [] ∧ KLe K m ∧ rng64 l) V ⟨K, rfl, hS, (KLe.refl _), (by decide : rng64 0)⟩ ?_
  rintro l _ aU aV W G ⟨m, rfl, H, c, aW⟩
  refine wc_seq (sr (mv rfl (mv rfl (lv (rv_len (t := tInt) Try.underlying24 rfl (k.mono c)) (lv (rv_lss rfl rfl) (nq (wcc W rfl (fun X x => ?_) (fun X x => ?_))))))))
  ·refine wc_skip (qs (wc_block (wc_seq ?_)))
   obtain ⟨Y, Z, aa⟩ := ob x
   refine wc_cutg (fun E' w' => ∃ o, E' = [(0, .slice d f i), (3, .int .i64 l), (31, .bool Y)] ∧ SH w K [] w' o [] ∧ KLe m o) ?_ ?_
   ·refine wc_quiet mixed (by kernel_rfl) H (km rfl (km rfl ?_))
    obtain ⟨I, ab, ac⟩ := ob Z
    refine ki Try.underlying24 tf3 (k.mono c) ab fun ad ae aX af ag => ?_
    obtain ⟨rfl, ah⟩ := af
    have ai : AtK _ ad ae [.int .i64 I] := ag
    refine kh (rq_load1 tf3 rfl (ai 0 _ rfl)) ?_
    obtain ⟨J, aj, O⟩ := ob ac
    refine wq_call (v := .bool J) wn rfl (fun _ => rt_call (vs := [.int .i64 I, .int .i64 0, .int .i64 999999999]) co36 rfl) (fun aY ⟨aZ, R, ak⟩ => ((ok_spec_l1In F) R.enter0 ah (by decide : rng64 0) (by decide : rng64 999999999) aj).mono fun e w' ⟨K', he, hS'⟩ => ⟨he, K', R.call0 hS', ak.trans hS'.le⟩) (kv (rv_not rfl) (km rfl ?_))
    rcases bool_tf ((!J)) with b | b
    ·have s := cond_t b O
     refine kn b (kn b (kn b (ku (ku (ku (ku (ku (ku (ku ?_)))))))))
     refine ku (ku (ku (kn b (kv (rv_pick_t (v := .bool true) rfl b rfl) (wq_nil ?_)))))
     rintro a0 ⟨al, am, an⟩
     obtain rfl := oi s
     exact qd ⟨al, rfl, am, an⟩
    have s := cond_f b O
    refine kg b (rv_move rfl) (kg b (rv_gtr rfl rfl) (kg b (rv_move rfl) ?_))
    rcases bool_tf (decide ((0 : Int) < l)) with a | a
    ·have y := cond_t a s
     refine kg a (rv_move rfl) (kg a (rv_move rfl) ?_)
     obtain ⟨ao, ap, aq⟩ := ob y
     refine wq_indexAddr (t := tInt) (wg rfl rfl a) rfl Try.underlying24 tf3 rfl rfl (k.mono c) ap fun ar au a2 aw ax => ?_
     obtain ⟨rfl, a3⟩ := aw
     have ay : AtK _ ar au [.int .i64 ao] := ax
     refine kgh a (rq_load1 tf3 rfl (ay 0 _ rfl)) (kg a (rv_move rfl) (kg a (rv_move rfl) (kg a (rv_sub rfl rfl) ?_)))
     obtain ⟨az, aA, aB⟩ := ob aq
     refine wq_indexAddr (t := tInt) (wg rfl rfl a) rfl Try.underlying24 tf3 rfl rfl (k.mono c) aA fun aC aD a4 aE aF => ?_
     obtain ⟨rfl, a5⟩ := aE
     have aG : AtK _ aC aD [.int .i64 az] := aF
     refine kgh a (rq_load1 tf3 rfl (aG 0 _ rfl)) (kg a (rv_leq rfl rfl) (kg b (rv_pick_t rfl a rfl) (kv (rv_pick_f rfl b rfl) (wq_nil ?_))))
     rintro a6 ⟨aH, aI, aJ⟩
     obtain rfl := oi aB
     exact qd ⟨aH, rfl, aI, aJ⟩
    have y := cond_f a s
    refine kn a (kn a (kn a (kn a (kn a (kn a (kn a (kn a (kn a (kn a ?_)))))))))
    refine kg b (rv_pick_f (v := .bool false) rfl a rfl) (kv (rv_pick_f rfl b rfl) (wq_nil ?_))
    rintro a7 ⟨aK, aL, aM⟩
    obtain rfl := oi y
    exact qd ⟨aK, rfl, aL, aM⟩
   rintro _ w32 ⟨o, rfl, S, aN⟩
   refine qe_seq (wcc aa rfl (fun aO A => ?_) (fun aO A => ?_))
   ·refine sr (lv (rv_assign (v := .bool false) rfl) (nq (wc_ret (qe_block_ret (qe_then_ret (qe_then_ret ?_))))))
    obtain rfl := oi A
    have aP := G _ rfl
    subst aP
    refine qe_block_ret (qe_then_ret ?_)
    obtain rfl := oi D
    refine qe_then_ret ?_
    obtain rfl := oi B
    exact er Try.results22 ⟨rfl, trivial⟩ ⟨o, rfl, S⟩
   refine wc_skip (qe_block (qe_seq (wc_region (mv rfl (lv (rv_add rfl rfl) (av rfl (wl_nil ?_)))))))
   obtain rfl := oi A
   exact qd ⟨_, rfl, o, rfl, S, (c.trans aN), (w64_rng _)⟩
  refine wc_exit (qe_then_exit (qe_then_exit ?_))
  obtain rfl := oi x
  have aQ := G _ rfl
  subst aQ
  refine qe_block_eq ?_
  obtain rfl := oi D
  exact qd ⟨_, m, rfl, rfl, H, c⟩
 rintro _ a8 ⟨C, q, rfl, rfl, aR, aS⟩
 refine qr (mv rfl (lv (rv_len (t := tInt) Try.underlying24 rfl (k.mono aS)) (lv (rv_leq rfl rfl) (av rfl (nq (wc_ret ?_))))))
 obtain rfl := oi B
 exact er Try.results22 ⟨rfl, trivial⟩ ⟨q, rfl, aR⟩

theorem ok_spec_l6Num (F : Nat) {w : World} {K : KMap} {d : Option Addr} {f i : Nat} {k : Option Addr} {l m : Nat} {p0_d : GDoc} {p1_name : Str} {r : Int} (hS : SH w K [] w K []) (ar : rng64 p0_d.Id) (au : SliceAt tGField K d f i p0_d.Fields) (q : SliceAt tGAttr K k l m p0_d.Nums) (aw : p1_name.length ≤ maxLen) (hm : M.spec_l6Num F p0_d p1_name = some r) :
  Calls Try.prog 37 #[.agg #[.int .i64 p0_d.Id, .slice d f i, .slice k l m], sv p1_name] w fun e w' => ∃ (K' : KMap), e = .returned (.int .i64 r) ∧ SH w K [] w' K' [] ∧ rng64 r := by
 rw [M.spec_l6Num] at hm
 refine calls_in Try.func37 rfl Try.ntmps37 rfl (sr (bx rfl hS fun s ax J => ?_))
 have O : SH _ _ _ _ _ [obj s [.int .i64 p0_d.Id, .slice d f i, .slice k l m] 44] := J
 refine lv (rv_assign (v := .int .i64 0) rfl) (nsr (lv (rv_assign (v := .int .i64 0) rfl) (nq ?_)))
 obtain ⟨R, S, B⟩ := ob hm
 refine wc_cutg (fun E' w' => ∃ C o, R = .inl C ∧ E' = [] ∧ SH w K [] w' o [] ∧ KLe K o) ?_ ?_
 ·refine wc_block ?_
  obtain ⟨ay, T, D⟩ := ob S
  refine qw (fun (x : Int) E' w' => ∃ b, E' = [(1, sv p1_name), (2, pt s), (5, .int .i64 x)] ∧ SH w K [] w' b [obj s [.int .i64 p0_d.Id, .slice d f i, .slice k l m] 44] ∧ KLe K b ∧ rng64 x) T ⟨K, rfl, O, (KLe.refl _), (by decide : rng64 0)⟩ ?_
  rintro x _ az aA U G ⟨b, rfl, a, c, aB⟩
  refine wc_seq (sr (mv rfl (fa ff44_2 rfl (lv (rv_loadm1 tf42 rfl m0 a rfl) (lv (rv_len (t := tGAttr) Try.underlying42 rfl (q.mono c)) (lv (rv_lss rfl rfl) (nq (wcc U rfl (fun V y => ?_) (fun V y => ?_)))))))))
  ·refine wc_skip (qs (wc_block (sr (fa ff44_2 rfl (lv (rv_loadm1 tf42 rfl m0 a rfl) (mv rfl ?_))))))
   obtain ⟨H, W, X⟩ := ob y
   refine li Try.underlying42 tf72 (q.mono c) W fun Y Z aC aa ab => ?_
   obtain ⟨rfl, aD, aE⟩ := aa
   have ac : AtK _ Y Z [sv H.Name, .int .i64 H.Num] := ab
   refine fa ff72_0 rfl (lv (rv_load1 tf9 rfl a (ac 0 _ rfl)) (mv rfl (lv (rv_seql rfl rfl) (nq (wcc X rfl (fun ad A => ?_) (fun ad A => ?_))))))
   ·refine sr (fa ff44_2 rfl (lv (rv_loadm1 tf42 rfl m0 a rfl) (mv rfl ?_)))
    obtain ⟨I, ae, af⟩ := ob A
    refine li Try.underlying42 tf72 (q.mono c) ae fun ag ah aF ai aj => ?_
    obtain ⟨rfl, aG, ak⟩ := ai
    have al : AtK _ ag ah [sv I.Name, .int .i64 I.Num] := aj
    refine fa ff72_1 rfl (lv (rv_load1 tf3 rfl a (al 1 _ rfl)) (av rfl (nq (wc_ret (qe_block_ret (qe_then_ret (qe_then_ret ?_)))))))
    obtain rfl := oi af
    have am := G _ rfl
    subst am
    refine qe_block_ret (qe_then_ret ?_)
    obtain rfl := oi D
    refine qe_then_ret ?_
    obtain rfl := oi B
    have an := a.sb (sd sz)
    exact er Try.results37 ⟨rfl, trivial⟩ ⟨b, rfl, an, ak⟩
   refine wc_skip (qe_block (qe_seq (wc_region (mv rfl (lv (rv_add rfl rfl) (av rfl (wl_nil ?_)))))))
   obtain rfl := oi A
   exact qd ⟨_, rfl, b, rfl, a, c, (w64_rng _)⟩
  refine wc_exit (qe_then_exit (qe_then_exit ?_))
  obtain rfl := oi y
  have ao := G _ rfl
  subst ao
  refine qe_block_eq ?_
  obtain rfl := oi D
  have ap := a.sb (sd sz)
  exact qe_mid' ⟨_, b, rfl, rfl, ap, c⟩ trivial
 rintro _ aH ⟨C, o, rfl, rfl, aq, aI⟩
 refine qr (lv (rv_assign (v := .int .i64 (-1)) rfl) (nq (wc_ret ?_)))
 obtain rfl := oi B
 exact er Try.results37 ⟨rfl, trivial⟩ ⟨o, rfl, aq, (by decide : rng64 (-1))⟩

theorem ok_spec_l8Has (F : Nat) {w : World} {K : KMap} {f : Option Addr} {i k : Nat} {p0_list : List Int} {p1_n : Int} {r : Bool} (hS : SH w K [] w K []) (q : SliceAt tInt K f i k p0_list) (aa : rng64 p1_n) (hm : M.spec_l8Has F p0_list p1_n = some r) :
  Calls Try.prog 38 #[.slice f i k, .int .i64 p1_n] w fun e w' => ∃ (K' : KMap), e = .returned (.bool r) ∧ SH w K [] w' K' [] := by
 rw [M.spec_l8Has] at hm
 refine calls_in Try.func38 rfl Try.ntmps38 rfl (sr (lv (rv_assign (v := .bool false) rfl) (nsr (lv (rv_assign (v := .int .i64 0) rfl) (nq ?_)))))
 obtain ⟨B, C, s⟩ := ob hm
 refine wc_cutg (fun E' w' => ∃ x b, B = .inl x ∧ E' = [] ∧ SH w K [] w' b [] ∧ KLe K b) ?_ ?_
 ·refine wc_block ?_
  obtain ⟨ab, D, y⟩ := ob C
  refine qw (fun (l : Int) E' w' => ∃ a, E' = [(0, .slice f i k), (1, .int .i64 p1_n), (5, .int .i64 l)] ∧ SH w K [] w' a [] ∧ KLe K a ∧ rng64 l) D ⟨K, rfl, hS, (KLe.refl _), (by decide : rng64 0)⟩ ?_
  rintro l _ ac ad G A ⟨a, rfl, c, d, ae⟩
  refine wc_seq (sr (mv rfl (mv rfl (lv (rv_len (t := tInt) Try.underlying24 rfl (q.mono d)) (lv (rv_lss rfl rfl) (nq (wcc G rfl (fun H m => ?_) (fun H m => ?_))))))))
  ·refine wc_skip (qs (wc_block (sr (mv rfl (mv rfl ?_)))))
   obtain ⟨I, J, O⟩ := ob m
   refine li Try.underlying24 tf3 (q.mono d) J fun R S af T U => ?_
   obtain ⟨rfl, ag⟩ := T
   have V : AtK _ R S [.int .i64 I] := U
   refine lv (rv_load1 tf3 rfl c (V 0 _ rfl)) (mv rfl (lv (rv_eql rfl rfl) (nq (wcc O rfl (fun W o => ?_) (fun W o => ?_)))))
   ·refine sr (lv (rv_assign (v := .bool true) rfl) (nq (wc_ret (qe_block_ret (qe_then_ret (qe_then_ret ?_))))))
    obtain rfl := oi o
    have X := A _ rfl
    subst X
    refine qe_block_ret (qe_then_ret ?_)
    obtain rfl := oi y
    refine qe_then_ret ?_
    obtain rfl := oi s
    exact er Try.results38 ⟨rfl, trivial⟩ ⟨a, rfl, c⟩
   refine wc_skip (qe_block (qe_seq (wc_region (mv rfl (lv (rv_add rfl rfl) (av rfl (wl_nil ?_)))))))
   obtain rfl := oi o
   exact qd ⟨_, rfl, a, rfl, c, d, (w64_rng _)⟩
  refine wc_exit (qe_then_exit (qe_then_exit ?_))
  obtain rfl := oi m
  have Y := A _ rfl
  subst Y
  refine qe_block_eq ?_
  obtain rfl := oi y
  exact qe_mid' ⟨_, a, rfl, rfl, c, d⟩ trivial
 rintro _ ah ⟨x, b, rfl, rfl, Z, ai⟩
 refine qr (lv (rv_assign (v := .bool false) rfl) (nq (wc_ret ?_)))
 obtain rfl := oi s
 exact er Try.results38 ⟨rfl, trivial⟩ ⟨b, rfl, Z⟩

set_option maxHeartbeats 2000000 in
theorem ok_spec_l16Put (F : Nat) {w : World} {K : KMap} {d : Option Addr} {f i : Nat} {p0_list : List GFacet} {p1_n : Int} {r : (List GFacet)} (hS : SH w K [] w K []) (c : SliceAt tGFacet K d f i p0_list) (U : rng64 p1_n) (hm : M.spec_l16Put F p0_list p1_n = some r) :
  Calls Try.prog 39 #[.slice d f i, .int .i64 p1_n] w fun e w' => ∃ (a_1 : Option Addr) (n_2 c_3 : Nat) (K' : KMap), e = .returned (.slice a_1 n_2 c_3) ∧ SH w K [] w' K' [tail (.slice a_1 n_2 c_3) 34 2] ∧ SliceAt tGFacet K' a_1 n_2 c_3 r := by
 rw [M.spec_l16Put] at hm
 refine calls_in Try.func39 rfl Try.ntmps39 rfl (sr (lv (rv_assign (v := .slice none 0 0) rfl) (nr (lv (rv_assign (v := .int .i64 0) rfl) (ns ?_)))))
 obtain ⟨A, h7, h8⟩ := ob hm
 refine wc_cutg (fun E' w' => ∃ C, E' = [(0, .slice d f i), (1, .int .i64 p1_n), (5, .int .i64 A)] ∧ SH w K [] w' C [] ∧ KLe K C ∧ rng64 A) ?_ ?_
 ·refine wc_block ?_
  obtain ⟨bF, aj, ak⟩ := ob h7
  refine qw (fun (q : Int) E' w' => ∃ k, E' = [(0, .slice d f i), (1, .int .i64 p1_n), (5, .int .i64 q)] ∧ SH w K [] w' k [] ∧ KLe K k ∧ rng64 q) aj ⟨K, rfl, hS, (KLe.refl _), (by decide : rng64 0)⟩ ?_
  rintro q _ bG bH al am ⟨k, rfl, D, B, an⟩
  refine wc_seq (wc_seq ?_)
  obtain ⟨ao, V, ap⟩ := ob al
  refine wc_cutg (fun E' w' => ∃ s, E' = [(0, .slice d f i), (1, .int .i64 p1_n), (5, .int .i64 q), (19, .bool ao)] ∧ SH w K [] w' s [] ∧ KLe k s) ?_ ?_
  ·refine wc_region (mv rfl (mv rfl (lv (rv_len (t := tGFacet) Try.underlying27 rfl (c.mono B)) (lv (rv_lss rfl rfl) (mv rfl ?_)))))
   rcases bool_tf (decide (q < (p0_list.length : Int))) with a | a
   ·have G := cond_t a V
    refine lg a (rv_move rfl) (lg a (rv_move rfl) ?_)
    obtain ⟨W, aq, ar⟩ := ob G
    refine wl_indexAddr (t := tGFacet) (wg rfl rfl a) rfl Try.underlying27 tf34 rfl rfl (c.mono B) aq fun au aw bI ax ay => ?_
    obtain ⟨rfl, bJ, bK⟩ := ax
    have az : AtK _ au aw [.int .i64 W.Num, .int .i64 W.Many] := ay
    refine lg a (rv_fieldAddr ff34_0 rfl) (lg a (rv_load1 tf3 rfl D (az 0 _ rfl)) (lg a (rv_move rfl) (lg a (rv_lss rfl rfl) (lv (rv_pick_t rfl a rfl) (wl_nil ?_)))))
    obtain rfl := oi ar
    exact qd ⟨k, rfl, D, (KLe.refl _)⟩
   have G := cond_f a V
   refine lu a (lu a (lu a (lu a (lu a (lu a (lu a (lv (rv_pick_f (v := .bool false) rfl a rfl) (wl_nil ?_))))))))
   obtain rfl := oi G
   exact qd ⟨k, rfl, D, (KLe.refl _)⟩
  rintro _ bL ⟨s, rfl, X, Y⟩
  refine qe_seq (wcc ap rfl (fun aA H => ?_) (fun aA H => ?_))
  ·refine wc_skip (qe_seq (wc_block (wc_region (mv rfl (lv (rv_add rfl rfl) (av rfl (nb ?_)))))))
   obtain rfl := oi H
   exact qd ⟨_, rfl, s, rfl, X, (B.trans Y), (w64_rng _)⟩
  refine wc_exit (qe_then_exit (qe_then_exit ?_))
  obtain rfl := oi H
  have aB := am _ rfl
  subst aB
  refine qe_block_eq ?_
  obtain rfl := oi ak
  exact qd ⟨s, rfl, X, (B.trans Y), an⟩
 rintro _ bM ⟨C, rfl, aC, l, bN⟩
 refine qr (b0 tGFacet Try.underlying27 tf34 aC fun bO bP bQ m aD aE => (mv rfl (mv rfl ?_)))
 obtain ⟨bR, aF, aG⟩ := ob h8
 refine wl_sl_h (t := tGFacet) wn rfl Try.underlying27 tf34 rfl rfl (c.mono (l.trans m)) aF fun bS bT bU aH => ?_
 obtain ⟨bV, aI, aJ⟩ := ob aG
 refine lp Try.underlying27 tf34 aD aH aI aE fun Z aa ab bW I x ac J => (av rfl (ns (wc_seq ?_)))
 obtain ⟨aK, ad, aL⟩ := ob aJ
 refine wc_cutg (fun E' w' => ∃ O, E' = [(0, .slice d f i), (1, .int .i64 p1_n), (5, .int .i64 A), (6, .slice Z aa ab), (39, .bool aK)] ∧ SH w K [] w' O [tail (.slice Z aa ab) 34 2] ∧ KLe I O) ?_ ?_
 ·refine wc_region (mv rfl (mv rfl (lv (rv_len (t := tGFacet) Try.underlying27 rfl (c.mono ((l.trans m).trans x))) (lv (rv_lss rfl rfl) (mv rfl ?_)))))
  rcases bool_tf (decide (A < (p0_list.length : Int))) with b | b
  ·have R := cond_t b ad
   refine lg b (rv_move rfl) (lg b (rv_move rfl) ?_)
   obtain ⟨ae, aM, aN⟩ := ob R
   refine wl_indexAddr (t := tGFacet) (wg rfl rfl b) rfl Try.underlying27 tf34 rfl rfl (c.mono ((l.trans m).trans x)) aM fun aO aP bX aQ aR => ?_
   obtain ⟨rfl, bY, bZ⟩ := aQ
   have aS : AtK _ aO aP [.int .i64 ae.Num, .int .i64 ae.Many] := aR
   refine lg b (rv_fieldAddr ff34_0 rfl) (lg b (rv_load1 tf3 rfl J (aS 0 _ rfl)) (lg b (rv_move rfl) (lg b (rv_eql rfl rfl) (lv (rv_pick_t rfl b rfl) (wl_nil ?_)))))
   obtain rfl := oi aN
   exact qd ⟨I, rfl, J, (KLe.refl _)⟩
  have R := cond_f b ad
  refine lu b (lu b (lu b (lu b (lu b (lu b (lu b (lv (rv_pick_f (v := .bool false) rfl b rfl) (wl_nil ?_))))))))
  obtain rfl := oi R
  exact qd ⟨I, rfl, J, (KLe.refl _)⟩
 rintro _ b1 ⟨O, rfl, S, y⟩
 refine qe_seq (wcc aL rfl (fun aT T => ?_) (fun aT T => ?_))
 ·refine sr (mv rfl (mv rfl (mv rfl (mv rfl ?_))))
  obtain ⟨o, aU, aV⟩ := ob T
  refine li Try.underlying27 tf34 (SliceAt.mono (((l.trans m).trans x).trans y) c) aU fun aW aX b2 aY aZ => ?_
  obtain ⟨rfl, b3, b4⟩ := aY
  have a0 : AtK _ aW aX [.int .i64 o.Num, .int .i64 o.Many] := aZ
  refine fa ff34_1 rfl (lv (rv_load1 tf3 rfl S (a0 1 _ rfl)) (lv (rv_add rfl rfl) (lv (rv_build (cs := #[.int .i64 p1_n, .int .i64 (w64 (o.Many + (1 : Int)))]) sp34 tf34 rfl (by kernel_rfl)) (lb tGFacet (.agg #[.int .i64 p1_n, .int .i64 (w64 (o.Many + (1 : Int)))]) [.int .i64 p1_n, .int .i64 (w64 (o.Many + (1 : Int)))] (GFacet.mk p1_n (w64 (o.Many + (1 : Int)))) Try.underlying27 tf34 ⟨rfl, U, (w64_rng _)⟩ S fun b5 b6 b7 af a2 a3 => ?_))))
  obtain ⟨b8, a4, a5⟩ := ob aV
  refine lp Try.underlying27 tf34 (ac.mono (y.trans af)) a2 a4 a3.f1 fun b9 ca cb cc cd a6 a7 a8 => (av rfl (nr (mv rfl (mv rfl (mv rfl (lv (rv_add rfl rfl) ?_))))))
  obtain ⟨ce, a9, ba⟩ := ob a5
  refine wl_sl_l (t := tGFacet) wn rfl Try.underlying27 tf34 rfl rfl (SliceAt.mono (((((l.trans m).trans x).trans y).trans af).trans a6) c) a9 fun cf cg ch bb => ?_
  obtain ⟨ci, bc, bd⟩ := ob ba
  refine lp Try.underlying27 tf34 a7 bb bc a8 fun be bf bg cj bh ck bi bj => (av rfl (nq (rr ?_)))
  obtain rfl := oi bd
  have bk := bj.sb (sk (sd sz))
  exact er Try.results39 ⟨rfl, trivial⟩ ⟨be, bf, bg, bh, rfl, bk, bi⟩
 refine wc_skip (qr (mv rfl (mv rfl (lv (rv_build (cs := #[.int .i64 p1_n, .int .i64 1]) sp34 tf34 rfl (by kernel_rfl)) (lb tGFacet (.agg #[.int .i64 p1_n, .int .i64 1]) [.int .i64 p1_n, .int .i64 1] (GFacet.mk p1_n (1 : Int)) Try.underlying27 tf34 ⟨rfl, U, (by decide : rng64 1)⟩ S fun cl cm cn ag bl bm => ?_)))))
 obtain ⟨cp, bn, bo⟩ := ob T
 refine lp Try.underlying27 tf34 (ac.mono (y.trans ag)) bl bn bm.f1 fun cq cr ct cu cv bp bq br => (av rfl (nr (mv rfl (mv rfl (mv rfl ?_)))))
 obtain ⟨cw, bs, bt⟩ := ob bo
 refine wl_sl_l (t := tGFacet) wn rfl Try.underlying27 tf34 rfl rfl (SliceAt.mono (((((l.trans m).trans x).trans y).trans ag).trans bp) c) bs fun cx cy cz bu => ?_
 obtain ⟨cA, bv, bw⟩ := ob bt
 refine lp Try.underlying27 tf34 bq bu bv br fun bx bz bA cB bB cC bC bD => (av rfl (nq (wc_ret ?_)))
 obtain rfl := oi bw
 have bE := bD.sb (sk (sd sz))
 exact er Try.results39 ⟨rfl, trivial⟩ ⟨bx, bz, bA, bB, rfl, bE, bC⟩

set_option maxHeartbeats 2000000 in
theorem ok_spec_l16Sort (F : Nat) {w : World} {K : KMap} {l : Option Addr} {m o : Nat} {p0_list : List GFacet} {r : (List GFacet)} (hS : SH w K [] w K []) (O : SliceAt tGFacet K l m o p0_list) (hm : M.spec_l16Sort F p0_list = some r) :
  Calls Try.prog 40 #[.slice l m o] w fun e w' => ∃ (a_1 : Option Addr) (n_2 c_3 : Nat) (K' : KMap), e = .returned (.slice a_1 n_2 c_3) ∧ SH w K [] w' K' [tail (.slice a_1 n_2 c_3) 34 2] ∧ SliceAt tGFacet K' a_1 n_2 c_3 r := by
 rw [M.spec_l16Sort] at hm
 refine calls_in Try.func40 rfl Try.ntmps40 rfl (sr (lv (rv_assign (v := .slice none 0 0) rfl) (nr (b0 tGFacet Try.underlying27 tf34 hS fun a5 w6 R S aj ak => (av rfl (nsr (lv (rv_assign (v := .int .i64 0) rfl) (nq ?_))))))))
 obtain ⟨al, am, an⟩ := ob hm
 refine wc_cutg (fun E' w' => ∃ q s x y, E' = [(3, .slice q s x)] ∧ SH w K [] w' y [tail (.slice q s x) 34 2] ∧ KLe R y ∧ SliceAt tGFacet y q s x al) ?_ ?_
 ·refine wc_block ?_
  obtain ⟨bK, ao, ap⟩ := ob am
  refine qw (fun (i : (List GFacet) × Int) E' w' => ∃ b c d k, E' = [(0, .slice l m o), (3, .slice b c d), (4, .int .i64 i.2)] ∧ SH w K [] w' k [tail (.slice b c d) 34 2] ∧ KLe R k ∧ SliceAt tGFacet k b c d i.1 ∧ rng64 i.2) ao ⟨a5, 0, 0, R, rfl, ak, (KLe.refl _), aj, (by decide : rng64 0)⟩ ?_
  rintro i _ bL bM aq ar ⟨b, c, d, k, rfl, Z, A, B, bN⟩
  refine wc_seq (sr (mv rfl (mv rfl (lv (rv_len (t := tGFacet) Try.underlying27 rfl (O.mono (S.trans A))) (lv (rv_lss rfl rfl) (nq (wcc aq rfl (fun au T => ?_) (fun au T => ?_))))))))
  ·refine wc_skip (qs (wc_block (sr (lv (rv_assign (v := .int .i64 0) rfl) (ns ?_)))))
   obtain ⟨aa, aw, ax⟩ := ob T
   refine wc_cutg (fun E' w' => ∃ U, E' = [(0, .slice l m o), (3, .slice b c d), (4, .int .i64 i.2), (5, .int .i64 aa)] ∧ SH w K [] w' U [tail (.slice b c d) 34 2] ∧ KLe k U ∧ rng64 aa) ?_ ?_
   ·refine wc_block ?_
    obtain ⟨bO, ay, az⟩ := ob aw
    refine qw (fun (C : Int) E' w' => ∃ H, E' = [(0, .slice l m o), (3, .slice b c d), (4, .int .i64 i.2), (5, .int .i64 C)] ∧ SH w K [] w' H [tail (.slice b c d) 34 2] ∧ KLe k H ∧ rng64 C) ay ⟨k, rfl, Z, (KLe.refl _), (by decide : rng64 0)⟩ ?_
    rintro C _ bP bQ aA aB ⟨H, rfl, aC, D, aD⟩
    refine wc_seq (wc_seq ?_)
    obtain ⟨aE, ab, aF⟩ := ob aA
    refine wc_cutg (fun E' w' => ∃ G, E' = [(0, .slice l m o), (3, .slice b c d), (4, .int .i64 i.2), (5, .int .i64 C), (30, .bool aE)] ∧ SH w K [] w' G [tail (.slice b c d) 34 2] ∧ KLe H G) ?_ ?_
    ·refine wc_quiet mixed (by kernel_rfl) aC (km rfl (km rfl (kv (rv_len (t := tGFacet) Try.underlying27 rfl (B.mono D)) (kv (rv_lss rfl rfl) (km rfl ?_)))))
     rcases bool_tf (decide (C < (i.1.length : Int))) with a | a
     ·have V := cond_t a ab
      refine kg a (rv_move rfl) (kg a (rv_move rfl) ?_)
      obtain ⟨ac, aG, aH⟩ := ob V
      refine wq_indexAddr (t := tGFacet) (wg rfl rfl a) rfl Try.underlying27 tf34 rfl rfl (B.mono D) aG fun aI aJ bR aK aL => ?_
      obtain ⟨rfl, bS, bT⟩ := aK
      have aM : AtK _ aI aJ [.int .i64 ac.Num, .int .i64 ac.Many] := aL
      refine kg a (rv_fieldAddr ff34_1 rfl) (kgh a (rq_load1 tf3 rfl (aM 1 _ rfl)) (kg a (rv_move rfl) (kg a (rv_move rfl) ?_)))
      obtain ⟨ad, aN, aO⟩ := ob aH
      refine wq_indexAddr (t := tGFacet) (wg rfl rfl a) rfl Try.underlying27 tf34 rfl rfl (O.mono ((S.trans A).trans D)) aN fun aP aQ bU aR aS => ?_
      obtain ⟨rfl, bV, bW⟩ := aR
      have aT : AtK _ aP aQ [.int .i64 ad.Num, .int .i64 ad.Many] := aS
      refine kg a (rv_fieldAddr ff34_1 rfl) (kgh a (rq_load1 tf3 rfl (aT 1 _ rfl)) (kg a (rv_geq rfl rfl) (kv (rv_pick_t rfl a rfl) (wq_nil ?_))))
      rintro bX ⟨aU, aV, aW⟩
      obtain rfl := oi aO
      exact qd ⟨aU, rfl, aV, aW⟩
     have V := cond_f a ab
     refine kn a (kn a (kn a (kn a (kn a (kn a (kn a (kn a (kn a (kn a ?_)))))))))
     refine kn a (kv (rv_pick_f (v := .bool false) rfl a rfl) (wq_nil ?_))
     rintro bY ⟨aX, aY, aZ⟩
     obtain rfl := oi V
     exact qd ⟨aX, rfl, aY, aZ⟩
    rintro _ bZ ⟨G, rfl, ae, af⟩
    refine qe_seq (wcc aF rfl (fun a0 W => ?_) (fun a0 W => ?_))
    ·refine wc_skip (qe_seq (wc_block (wc_region (mv rfl (lv (rv_add rfl rfl) (av rfl (nb ?_)))))))
     obtain rfl := oi W
     exact qd ⟨_, rfl, G, rfl, ae, (D.trans af), (w64_rng _)⟩
    refine wc_exit (qe_then_exit (qe_then_exit ?_))
    obtain rfl := oi W
    have a2 := aB _ rfl
    subst a2
    refine qe_block_eq ?_
    obtain rfl := oi az
    exact qd ⟨G, rfl, ae, (D.trans af), aD⟩
   rintro _ b1 ⟨U, rfl, a3, I, b2⟩
   refine qr (b0 tGFacet Try.underlying27 tf34 a3 fun b3 b4 b5 J a4 a6 => (mv rfl (mv rfl ?_)))
   obtain ⟨b6, a7, a8⟩ := ob ax
   refine wl_sl_h (t := tGFacet) wn rfl Try.underlying27 tf34 rfl rfl (B.mono (I.trans J)) a7 fun b7 b8 b9 a9 => ?_
   obtain ⟨ca, ba, bb⟩ := ob a8
   refine lp Try.underlying27 tf34 a4 a9 ba a6 fun cb cc cd ce cf X bc ag => (av rfl (nr (mv rfl (mv rfl (mv rfl ?_)))))
   obtain ⟨f, bd, be⟩ := ob bb
   refine li Try.underlying27 tf34 (SliceAt.mono ((((S.trans A).trans I).trans J).trans X) O) bd fun bf bg cg bh bi => ?_
   obtain ⟨rfl, bj, bk⟩ := bh
   have bl : AtK _ bf bg [.int .i64 f.Num, .int .i64 f.Many] := bi
   refine lv (rv_loadS (cs := [.int .i64 f.Num, .int .i64 f.Many]) tf34 rfl ag bl rfl) (lb tGFacet (.agg #[.int .i64 f.Num, .int .i64 f.Many]) [.int .i64 f.Num, .int .i64 f.Many] f Try.underlying27 tf34 ⟨rfl, bj, bk⟩ ag fun ch ci cj Y bm bn => ?_)
   obtain ⟨ck, bo, bp⟩ := ob be
   refine lp Try.underlying27 tf34 (bc.mono Y) bm bo bn.f1 fun cl cm cn cp cq ah bq br => (av rfl (nq (wc_region (mv rfl (mv rfl (mv rfl ?_))))))
   obtain ⟨cr, bs, bt⟩ := ob bp
   refine wl_sl_l (t := tGFacet) wn rfl Try.underlying27 tf34 rfl rfl (SliceAt.mono ((((I.trans J).trans X).trans Y).trans ah) B) bs fun ct cu cv bu => ?_
   obtain ⟨cw, bv, bw⟩ := ob bt
   refine lp Try.underlying27 tf34 bq bu bv br fun bx bz bA cx bB bC bD bE => (av rfl (nb (qe_seq (wc_region (mv rfl (lv (rv_add rfl rfl) (av rfl (wl_nil ?_))))))))
   obtain rfl := oi bw
   have bF := bE.sb (sk (sd (sd sz)))
   exact qd ⟨_, rfl, bx, bz, bA, bB, rfl, bF, ((((((A.trans I).trans J).trans X).trans Y).trans ah).trans bC), bD, (w64_rng _)⟩
  refine wc_exit (qe_then_exit (qe_then_exit ?_))
  obtain rfl := oi T
  have bG := ar _ rfl
  subst bG
  refine qe_block_eq ?_
  obtain rfl := oi ap
  exact qd ⟨b, c, d, k, rfl, Z, A, B⟩
 rintro _ cy ⟨q, s, x, y, rfl, bH, cz, bI⟩
 refine qr (mv rfl (av rfl (nq (wc_ret ?_))))
 obtain rfl := oi an
 exact er Try.results40 ⟨rfl, trivial⟩ ⟨q, s, x, y, rfl, bH, bI⟩

set_option maxHeartbeats 2000000 in
theorem ok_spec_l16Of (F : Nat) {w : World} {K : KMap} {s : Option Addr} {x y : Nat} {k : Option Addr} {l m : Nat} {p0_docs : List GDoc} {p1_ids : List Int} {p2_name : Str} {r : (List GFacet)} (hS : SH w K [] w K []) (R : SliceAt tGDoc K s x y p0_docs) (am : SliceAt tInt K k l m p1_ids) (an : p2_name.length ≤ maxLen) (hm : M.spec_l16Of F p0_docs p1_ids p2_name = some r) :
  Calls Try.prog 23 #[.slice s x y, .slice k l m, sv p2_name] w fun e w' => ∃ (a_1 : Option Addr) (n_2 c_3 : Nat) (K' : KMap), e = .returned (.slice a_1 n_2 c_3) ∧ SH w K [] w' K' [tail (.slice a_1 n_2 c_3) 34 2] ∧ SliceAt tGFacet K' a_1 n_2 c_3 r := by
 rw [M.spec_l16Of] at hm
 refine calls_in Try.func23 rfl Try.ntmps23 rfl (sr (lv (rv_assign (v := .slice none 0 0) rfl) (nr (b0 tGFacet Try.underlying27 tf34 hS fun ao bx S A ap aq => (av rfl (nsr (lv (rv_assign (v := .int .i64 0) rfl) (nq ?_))))))))
 obtain ⟨ar, au, aw⟩ := ob hm
 refine wc_cutg (fun E' w' => ∃ B C D G, E' = [(7, .slice B C D)] ∧ SH w K [] w' G [] ∧ KLe S G ∧ SliceAt tGFacet G B C D ar) ?_ ?_
 ·refine wc_block ?_
  obtain ⟨bz, ax, ay⟩ := ob au
  have az := aq.sb (sd sz)
  refine qw (fun (o : (List GFacet) × Int) E' w' => ∃ b c d q, E' = [(0, .slice s x y), (1, .slice k l m), (2, sv p2_name), (7, .slice b c d), (8, .int .i64 o.2)] ∧ SH w K [] w' q [] ∧ KLe S q ∧ SliceAt tGFacet q b c d o.1 ∧ rng64 o.2) ax ⟨ao, 0, 0, S, rfl, az, (KLe.refl _), ap, (by decide : rng64 0)⟩ ?_
  rintro o _ bA bB aA aB ⟨b, c, d, q, rfl, H, f, T, bC⟩
  refine wc_seq (sr (mv rfl (mv rfl (lv (rv_len (t := tGDoc) Try.underlying23 rfl (R.mono (A.trans f))) (lv (rv_lss rfl rfl) (nq (wcc aA rfl (fun aC U => ?_) (fun aC U => ?_))))))))
  ·refine wc_skip (qs (wc_block (sr (mv rfl (mv rfl ?_)))))
   obtain ⟨V, aD, aE⟩ := ob U
   refine li Try.underlying23 tf44 (R.mono (A.trans f)) aD fun aF aG bD aH aI => ?_
   obtain ⟨W, X, Y, Z, aa, ab, rfl, aJ, aK, aL⟩ := aH
   have aM : AtK _ aF aG [.int .i64 V.Id, .slice W X Y, .slice Z aa ab] := aI
   refine lv (rv_loadS (cs := [.int .i64 V.Id, .slice W X Y, .slice Z aa ab]) tf44 rfl H aM rfl) (mv rfl ?_)
   obtain ⟨ac, aN, aO⟩ := ob aE
   refine lc (vs := [.agg #[.int .i64 V.Id, .slice W X Y, .slice Z aa ab], sv p2_name]) co37 ((ok_spec_l6Num F) H.enter0 aJ aK aL an aN) ?_
   rintro bE bF ⟨ag, rfl, i, aP⟩
   refine ⟨_, rfl, ?_⟩
   have I := (H.c0 i).t0
   refine av rfl (ns ?_)
   obtain ⟨aQ, ah, aR⟩ := ob aO
   refine wc_cutg (fun E' w' => ∃ J, E' = [(0, .slice s x y), (1, .slice k l m), (2, sv p2_name), (7, .slice b c d), (8, .int .i64 o.2), (9, .int .i64 ac), (33, .bool aQ)] ∧ SH w K [] w' J [] ∧ KLe ag J) ?_ ?_
   ·refine wc_region (mv rfl (lv (rv_geq rfl rfl) (mv rfl ?_)))
    rcases bool_tf (decide ((0 : Int) ≤ ac)) with a | a
    ·have ad := cond_t a ah
     refine lg a (rv_move rfl) (lg a (rv_move rfl) (lg a (rv_move rfl) ?_))
     obtain ⟨ai, aS, aT⟩ := ob ad
     refine wl_indexAddr (t := tGDoc) (wg rfl rfl a) rfl Try.underlying23 tf44 rfl rfl (R.mono ((A.trans f).trans i.le)) aS fun aU aV bG aW aX => ?_
     obtain ⟨aY, aZ, a0, a2, a3, a4, rfl, a6, bH, bI⟩ := aW
     have a7 : AtK _ aU aV [.int .i64 ai.Id, .slice aY aZ a0, .slice a2 a3 a4] := aX
     refine lg a (rv_fieldAddr ff44_0 rfl) (lg a (rv_load1 tf3 rfl I (a7 0 _ rfl)) ?_)
     obtain ⟨bJ, a8, a9⟩ := ob aT
     refine wl_call (wg rfl rfl a) rfl (rt_call (vs := [.slice k l m, .int .i64 ai.Id]) co38 rfl) ((ok_spec_l8Has F) I.enter0 (am.mono ((A.trans f).trans i.le)) a6 a8) ?_
     rintro bK bL ⟨ba, rfl, aj⟩
     refine ⟨_, rfl, ?_⟩
     have bb := (I.c0 aj).t0
     refine lv (rv_pick_t rfl a rfl) (wl_nil ?_)
     obtain rfl := oi a9
     exact qd ⟨ba, rfl, bb, aj.le⟩
    have ad := cond_f a ah
    refine lu a (lu a (lu a (lu a (lu a (lu a (lu a (lv (rv_pick_f (v := .bool false) rfl a rfl) (wl_nil ?_))))))))
    obtain rfl := oi ad
    exact qd ⟨ag, rfl, I, (KLe.refl _)⟩
   rintro _ bM ⟨J, rfl, ae, O⟩
   refine qe_seq (wcc aR rfl (fun bc af => ?_) (fun bc af => ?_))
   ·refine wc_region (mv rfl (mv rfl ?_))
    obtain ⟨bN, bd, be⟩ := ob af
    refine lc (vs := [.slice b c d, .int .i64 ac]) co39 ((ok_spec_l16Put F) ae.enter0 (T.mono (i.le.trans O)) aP bd) ?_
    rintro bO bP ⟨bf, bg, bh, bi, rfl, ak, bj⟩
    refine ⟨_, rfl, ?_⟩
    have bk := (ae.c0 ak).t1
    refine av rfl (nb (qe_seq (wc_region (mv rfl (lv (rv_add rfl rfl) (av rfl (wl_nil ?_)))))))
    obtain rfl := oi be
    have bl := bk.sb (sd sz)
    exact qd ⟨_, rfl, bf, bg, bh, bi, rfl, bl, (((f.trans i.le).trans O).trans ak.le), bj, (w64_rng _)⟩
   refine wc_skip (qe_block (qe_seq (wc_region (mv rfl (lv (rv_add rfl rfl) (av rfl (wl_nil ?_)))))))
   obtain rfl := oi af
   exact qd ⟨_, rfl, b, c, d, J, rfl, ae, ((f.trans i.le).trans O), (T.mono (i.le.trans O)), (w64_rng _)⟩
  refine wc_exit (qe_then_exit (qe_then_exit ?_))
  obtain rfl := oi U
  have bm := aB _ rfl
  subst bm
  refine qe_block_eq ?_
  obtain rfl := oi ay
  exact qd ⟨b, c, d, q, rfl, H, f, T⟩
 rintro _ bQ ⟨B, C, D, G, rfl, al, bR, bn⟩
 refine qr (mv rfl ?_)
 obtain ⟨bS, bo, bp⟩ := ob aw
 refine lc (vs := [.slice B C D]) co40 ((ok_spec_l16Sort F) al.enter0 bn bo) ?_
 rintro bT bU ⟨bq, br, bs, bt, rfl, bu, bv⟩
 refine ⟨_, rfl, ?_⟩
 have bw := (al.c0 bu).t1
 refine av rfl (nq (wc_ret ?_))
 obtain rfl := oi bp
 exact er Try.results23 ⟨rfl, trivial⟩ ⟨bq, br, bs, bt, rfl, bw, bv⟩

theorem ok_spec_FacetOf (F : Nat) {w : World} {K : KMap} {b : Option Addr} {c d : Nat} {f : Option Addr} {i k : Nat} {p0_docs : List GDoc} {p1_ids : List Int} {p2_name : Str} {r : (List GFacet)} (hS : SH w K [] w K []) (y : SliceAt tGDoc K b c d p0_docs) (A : SliceAt tInt K f i k p1_ids) (G : p2_name.length ≤ maxLen) (hm : M.spec_FacetOf F p0_docs p1_ids p2_name = some r) :
  Calls Try.prog 7 #[.slice b c d, .slice f i k, sv p2_name] w fun e w' => ∃ (a_1 : Option Addr) (n_2 c_3 : Nat) (K' : KMap), e = .returned (.slice a_1 n_2 c_3) ∧ SH w K [] w' K' [tail (.slice a_1 n_2 c_3) 34 2] ∧ SliceAt tGFacet K' a_1 n_2 c_3 r := by
 rw [M.spec_FacetOf] at hm
 refine calls_in Try.func7 rfl Try.ntmps7 rfl (sr (lv (rv_assign (v := .slice none 0 0) rfl) (ns (wc_seq ?_))))
 obtain ⟨H, I, J⟩ := ob hm
 refine wc_cutg (fun E' w' => ∃ l, E' = [(0, .slice b c d), (1, .slice f i k), (2, sv p2_name), (14, .bool H)] ∧ SH w K [] w' l [] ∧ KLe K l) ?_ ?_
 ·refine wc_region (mv rfl ?_)
  obtain ⟨O, R, B⟩ := ob I
  refine lc (vs := [.slice b c d]) co21 ((ok_spec_l6Docs F) hS.enter0 y R) ?_
  rintro ai aj ⟨S, rfl, m⟩
  refine ⟨_, rfl, ?_⟩
  have o := (hS.c0 m).t0
  refine lv (rv_not rfl) (mv rfl ?_)
  rcases bool_tf ((!O)) with a | a
  ·have q := cond_t a B
   refine lu a (lu a (lu a (lv (rv_pick_t (v := .bool true) rfl a rfl) (wl_nil ?_))))
   obtain rfl := oi q
   exact qd ⟨S, rfl, o, m.le⟩
  have q := cond_f a B
  refine lg a (rv_move rfl) ?_
  obtain ⟨ak, T, U⟩ := ob q
  refine wl_call (wg rfl rfl a) rfl (rt_call (vs := [.slice f i k]) co22 rfl) ((ok_spec_l3Up F) o.enter0 (A.mono m.le) T) ?_
  rintro al am ⟨V, rfl, C⟩
  refine ⟨_, rfl, ?_⟩
  have W := (o.c0 C).t0
  refine lg a (rv_not rfl) (lv (rv_pick_f rfl a rfl) (wl_nil ?_))
  obtain rfl := oi U
  exact qd ⟨V, rfl, W, (m.le.trans C.le)⟩
 rintro _ an ⟨l, rfl, s, D⟩
 refine qe_seq (wcc J rfl (fun X x => ?_) (fun X x => ?_))
 ·refine sr (lv (rv_assign (v := .slice none 0 0) rfl) (nq (rr ?_)))
  obtain rfl := oi x
  have Y := s.nil 34 2
  exact er Try.results7 ⟨rfl, trivial⟩ ⟨none, 0, 0, l, rfl, Y, (SliceAt.nil _ _)⟩
 refine wc_skip (qr (mv rfl (mv rfl (mv rfl ?_))))
 obtain ⟨ao, Z, aa⟩ := ob x
 refine lc (vs := [.slice b c d, .slice f i k, sv p2_name]) co23 ((ok_spec_l16Of F) s.enter0 (y.mono D) (A.mono D) G Z) ?_
 rintro ap aq ⟨ab, ac, ad, ae, rfl, af, ag⟩
 refine ⟨_, rfl, ?_⟩
 have ah := (s.c0 af).t1
 refine av rfl (nq (wc_ret ?_))
 obtain rfl := oi aa
 exact er Try.results7 ⟨rfl, trivial⟩ ⟨ab, ac, ad, ae, rfl, ah, ag⟩

theorem ok_impl_shardOk (F : Nat) {w : World} {K : KMap} {p0_many : Int} {p1_which : Int} {r : Bool} (hS : SH w K [] w K []) (f : rng64 p0_many) (i : rng64 p1_which) (hm : M.impl_shardOk F p0_many p1_which = some r) :
  Calls Try.prog 26 #[.int .i64 p0_many, .int .i64 p1_which] w fun e w' => ∃ (K' : KMap), e = .returned (.bool r) ∧ SH w K [] w' K' [] := by
 rw [M.impl_shardOk] at hm
 refine calls_in Try.func26 rfl Try.ntmps26 rfl (sr (lv (rv_assign (v := .bool false) rfl) (nr (mv rfl ?_))))
 obtain ⟨k, l, d⟩ := ob hm
 refine lc (vs := [.int .i64 p0_many, .int .i64 1, .int .i64 4]) co25 ((ok_impl_within F) hS.enter0 f (by decide : rng64 1) (by decide : rng64 4) l) ?_
 rintro B C ⟨m, rfl, o⟩
 refine ⟨_, rfl, ?_⟩
 have b := (hS.c0 o).t0
 refine mv rfl ?_
 rcases bool_tf (k) with a | a
 ·have c := cond_t a d
  refine lg a (rv_move rfl) (lg a (rv_move rfl) (lg a (rv_sub rfl rfl) ?_))
  obtain ⟨D, q, s⟩ := ob c
  refine wl_call (wg rfl rfl a) rfl (rt_call (vs := [.int .i64 p1_which, .int .i64 0, .int .i64 (w64 (p0_many - (1 : Int)))]) co25 rfl) ((ok_impl_within F) b.enter0 i (by decide : rng64 0) (w64_rng _) q) ?_
  rintro G H ⟨x, rfl, y⟩
  refine ⟨_, rfl, ?_⟩
  have A := (b.c0 y).t0
  refine lv (rv_pick_t rfl a rfl) (av rfl (nq (wc_ret ?_)))
  obtain rfl := oi s
  exact er Try.results26 ⟨rfl, trivial⟩ ⟨x, rfl, A⟩
 have c := cond_f a d
 refine lu a (lu a (lu a (lu a (lv (rv_pick_f (v := .bool false) rfl a rfl) (av rfl (nq (wc_ret ?_)))))))
 obtain rfl := oi c
 exact er Try.results26 ⟨rfl, trivial⟩ ⟨m, rfl, b⟩

theorem ok_impl_cloneDoc (F : Nat) {w : World} {K : KMap} {m : Option Addr} {o q : Nat} {s : Option Addr} {v x : Nat} {p0_d : GDoc} {r : GDoc} (hS : SH w K [] w K []) (ap : rng64 p0_d.Id) (aq : SliceAt tGField K m o q p0_d.Fields) (ar : SliceAt tGAttr K s v x p0_d.Nums) (hm : M.impl_cloneDoc F p0_d = some r) :
  Calls Try.prog 27 #[.agg #[.int .i64 p0_d.Id, .slice m o q, .slice s v x]] w fun e w' => ∃ (a_2 : Option Addr) (n_3 c_4 : Nat) (a_6 : Option Addr) (n_7 c_8 : Nat) (K' : KMap), e = .returned (.agg #[.int .i64 r.Id, .slice a_2 n_3 c_4, .slice a_6 n_7 c_8]) ∧ SH w K [] w' K' [tail (.slice a_2 n_3 c_4) 69 2, tail (.slice a_6 n_7 c_8) 72 2] ∧ rng64 r.Id ∧ SliceAt tGField K' a_2 n_3 c_4 r.Fields ∧ SliceAt tGAttr K' a_6 n_7 c_8 r.Nums := by
 rw [M.impl_cloneDoc] at hm
 refine calls_in Try.func27 rfl Try.ntmps27 rfl (sr (bx rfl hS fun D a3 aG => ?_))
 have aH : SH _ _ _ _ _ [obj D [.int .i64 p0_d.Id, .slice m o q, .slice s v x] 44] := aG
 refine al tf44 aH fun aI a4 aJ => ?_
 have aK : SH _ _ _ _ _ [obj aI [.int .i64 0, .slice none 0 0, .slice none 0 0] 44, _] := aJ
 refine ns ?_
 obtain ⟨a5, au, aL⟩ := ob hm
 obtain ⟨a7, aw, ax⟩ := ob aL
 refine wc_held (fun w' => Holds K w' ∧ HasObj D [.int .i64 p0_d.Id, .slice m o q, .slice s v x] w') (fun w' => True) 12 [] mixed ?_
 have b := aK.drew
 refine wg_val (i := 0) (listed' := #[true, false, false, false, false, false, false, false, false, false, false, false]) (fun _ => True) rfl (by kernel_rfl) (pk_then pk_body) (by kernel_rfl) rfl (by kernel_rfl) (by kernel_rfl) rfl (.inl fun _ _ => trivial) ⟨⟨b.hasK (KLe.refl _), b.hasObj m1⟩, (fun _ => trivial), by decide⟩ wn rfl (fun _ _ => (rv_fieldAddr ff44_0 rfl)) (wg_val (i := 1) (listed' := #[true, true, false, false, false, false, false, false, false, false, false, false]) (HasObj D [.int .i64 p0_d.Id, .slice m o q, .slice s v x]) rfl (by kernel_rfl) (pk_then pk_body) (by kernel_rfl) rfl (by kernel_rfl) (by kernel_rfl) rfl (.inl fun _ h => h.2) ⟨⟨b.hasK (KLe.refl _), b.hasObj m1⟩, (fun _ => trivial), by decide⟩ wn rfl (fun _ h => rh_loadm1 tf3 rfl rfl h) (wg_val (i := 3) (listed' := #[true, true, false, true, false, false, false, false, false, false, false, false]) (fun _ => True) rfl (by kernel_rfl) (pk_then pk_body) (by kernel_rfl) rfl (by kernel_rfl) (by kernel_rfl) rfl (.inl fun _ _ => trivial) ⟨⟨b.hasK (KLe.refl _), b.hasObj m1⟩, (fun _ => trivial), by decide⟩ wn rfl (fun _ _ => (rv_fieldAddr ff44_1 rfl)) ?_))
 refine wg_val (i := 4) (listed' := #[true, true, false, true, true, false, false, false, false, false, false, false]) (HasObj D [.int .i64 p0_d.Id, .slice m o q, .slice s v x]) rfl (by kernel_rfl) (pk_then pk_body) (by kernel_rfl) rfl (by kernel_rfl) (by kernel_rfl) rfl (.inl fun _ h => h.2) ⟨⟨b.hasK (KLe.refl _), b.hasObj m1⟩, (fun _ => trivial), by decide⟩ wn rfl (fun _ h => rh_loadm1 tf41 rfl rfl h) (wg_val (i := 7) (listed' := #[true, true, false, true, true, false, false, true, false, false, false, false]) (fun _ => True) rfl (by kernel_rfl) (pk_then pk_body) (by kernel_rfl) rfl (by kernel_rfl) (by kernel_rfl) rfl (.inl fun _ _ => trivial) ⟨⟨b.hasK (KLe.refl _), b.hasObj m1⟩, (fun _ => trivial), by decide⟩ wn rfl (fun _ _ => (rv_fieldAddr ff44_2 rfl)) (wg_val (i := 8) (listed' := #[true, true, false, true, true, false, false, true, true, false, false, false]) (HasObj D [.int .i64 p0_d.Id, .slice m o q, .slice s v x]) rfl (by kernel_rfl) (pk_then pk_body) (by kernel_rfl) rfl (by kernel_rfl) (by kernel_rfl) rfl (.inl fun _ h => h.2) ⟨⟨b.hasK (KLe.refl _), b.hasObj m1⟩, (fun _ => trivial), by decide⟩ wn rfl (fun _ h => rh_loadm1 tf42 rfl rfl h) (wg_many (l := [2, 6]) (by kernel_rfl) rfl ⟨⟨_, rfl, ?_⟩, ⟨_, rfl, ?_⟩, trivial⟩)))
 ·refine b0 tGField Try.underlying41 tf69 b fun a8 a9 ba a aF ah => (wl_nil (qe_held (listed' := #[true, true, true, true, true, false, false, true, true, false, false, false]) rfl ⟨⟨ah.hasK a, ah.hasObj m2⟩, (fun _ => trivial), by decide⟩ (wg_many (l := [5, 6]) (by kernel_rfl) rfl ⟨⟨_, rfl, ?_⟩, ⟨_, rfl, ?_⟩, trivial⟩)))
  ·refine lp Try.underlying41 tf69 aF (aq.mono a) au ah fun G H I bb bc y aM ay => (wl_nil (qe_held (listed' := #[true, true, true, true, true, true, false, true, true, false, false, false]) rfl ⟨⟨ay.hasK (a.trans y), ay.hasObj m2⟩, (fun _ => trivial), by decide⟩ (wg_one (i := 6) (by kernel_rfl) rfl (b0 tGAttr Try.underlying42 tf72 ay fun bd be bf A aN az => (wl_nil (qe_held (listed' := #[true, true, true, true, true, true, true, true, true, false, false, false]) rfl ⟨⟨az.hasK ((a.trans y).trans A), az.hasObj m3⟩, (fun _ => trivial), by decide⟩ (wg_one (i := 9) (by kernel_rfl) rfl (lp Try.underlying42 tf72 aN (ar.mono ((a.trans y).trans A)) aw az fun J O R bg aO ai aP S => (wl_nil (qe_held (listed' := #[true, true, true, true, true, true, true, true, true, true, false, false]) rfl ⟨⟨S.hasK (((a.trans y).trans A).trans ai), S.hasObj m3⟩, (fun _ => trivial), by decide⟩ ?_))))))))))
   refine wg_val (i := 10) (listed' := #[true, true, true, true, true, true, true, true, true, true, true, false]) (fun _ => True) rfl (by kernel_rfl) (pk_then pk_body) (by kernel_rfl) rfl (by kernel_rfl) (by kernel_rfl) rfl (.inl fun _ _ => trivial) ⟨⟨S.hasK (((a.trans y).trans A).trans ai), S.hasObj m3⟩, (fun _ => trivial), by decide⟩ wn rfl (fun _ _ => (rv_build (cs := #[.int .i64 p0_d.Id, .slice G H I, .slice J O R]) sp44 tf44 rfl (by kernel_rfl))) (wg_one (i := 11) (by kernel_rfl) rfl (ls [.int .i64 p0_d.Id, .slice G H I, .slice J O R] (.agg #[.int .i64 p0_d.Id, .slice G H I, .slice J O R]) tf44 S.f2 fun bh aj => (wl_nil (qe_held (listed' := #[true, true, true, true, true, true, true, true, true, true, true, true]) rfl ⟨⟨aj.hasK (((a.trans y).trans A).trans ai), aj.hasObj m3⟩, (fun _ => trivial), by decide⟩ (wg_done (by kernel_rfl) (qe_seq (wc_ret ?_)))))))
   obtain rfl := oi ax
   have aQ := aj.f1.f2.sb (sk (sk (sd (sd sz))))
   exact qe_ret (vs := [_]) Try.results27 ⟨⟨_, _, rfl, run_loadVar_at tf44 (cs := [.int .i64 p0_d.Id, .slice G H I, .slice J O R]) (fun j c e => by rw [Nat.zero_add, aj.mem_obj m0]; exact e) (.inl ⟨rfl, rfl, rfl⟩)⟩, trivial⟩ ⟨G, H, I, J, O, R, aO, rfl, aQ, ap, (aM.mono (A.trans ai)), aP⟩
  refine b0 tGAttr Try.underlying42 tf72 ah fun bi bj bk d aR aA => (wl_nil (qe_held (listed' := #[true, true, true, true, true, false, true, true, true, false, false, false]) rfl ⟨⟨aA.hasK (a.trans d), aA.hasObj m3⟩, (fun _ => trivial), by decide⟩ (wg_one (i := 5) (by kernel_rfl) rfl (lp Try.underlying41 tf69 (aF.mono d) (aq.mono (a.trans d)) au aA.f1 fun T U V bl bm B aS aB => (wl_nil (qe_held (listed' := #[true, true, true, true, true, true, true, true, true, false, false, false]) rfl ⟨⟨aB.hasK ((a.trans d).trans B), aB.hasObj m3⟩, (fun _ => trivial), by decide⟩ (wg_one (i := 9) (by kernel_rfl) rfl (lp Try.underlying42 tf72 (aR.mono B) (ar.mono ((a.trans d).trans B)) aw aB.f1 fun W X Y bn aT ak aU Z => (wl_nil (qe_held (listed' := #[true, true, true, true, true, true, true, true, true, true, false, false]) rfl ⟨⟨Z.hasK (((a.trans d).trans B).trans ak), Z.hasObj m3⟩, (fun _ => trivial), by decide⟩ ?_))))))))))
  refine wg_val (i := 10) (listed' := #[true, true, true, true, true, true, true, true, true, true, true, false]) (fun _ => True) rfl (by kernel_rfl) (pk_then pk_body) (by kernel_rfl) rfl (by kernel_rfl) (by kernel_rfl) rfl (.inl fun _ _ => trivial) ⟨⟨Z.hasK (((a.trans d).trans B).trans ak), Z.hasObj m3⟩, (fun _ => trivial), by decide⟩ wn rfl (fun _ _ => (rv_build (cs := #[.int .i64 p0_d.Id, .slice T U V, .slice W X Y]) sp44 tf44 rfl (by kernel_rfl))) (wg_one (i := 11) (by kernel_rfl) rfl (ls [.int .i64 p0_d.Id, .slice T U V, .slice W X Y] (.agg #[.int .i64 p0_d.Id, .slice T U V, .slice W X Y]) tf44 Z.f2 fun bo am => (wl_nil (qe_held (listed' := #[true, true, true, true, true, true, true, true, true, true, true, true]) rfl ⟨⟨am.hasK (((a.trans d).trans B).trans ak), am.hasObj m3⟩, (fun _ => trivial), by decide⟩ (wg_done (by kernel_rfl) (qe_seq (wc_ret ?_)))))))
  obtain rfl := oi ax
  have aV := am.f1.f2.sb (sk (sk (sd (sd sz))))
  exact qe_ret (vs := [_]) Try.results27 ⟨⟨_, _, rfl, run_loadVar_at tf44 (cs := [.int .i64 p0_d.Id, .slice T U V, .slice W X Y]) (fun j c e => by rw [Nat.zero_add, am.mem_obj m0]; exact e) (.inl ⟨rfl, rfl, rfl⟩)⟩, trivial⟩ ⟨T, U, V, W, X, Y, aT, rfl, aV, ap, (aS.mono ak), aU⟩
 refine b0 tGAttr Try.underlying42 tf72 b fun bp bq br f aW aC => (wl_nil (qe_held (listed' := #[true, true, false, true, true, false, true, true, true, false, false, false]) rfl ⟨⟨aC.hasK f, aC.hasObj m2⟩, (fun _ => trivial), by decide⟩ (wg_one (i := 2) (by kernel_rfl) rfl (b0 tGField Try.underlying41 tf69 aC fun bs bt bu k aX aD => (wl_nil (qe_held (listed' := #[true, true, true, true, true, false, true, true, true, false, false, false]) rfl ⟨⟨aD.hasK (f.trans k), aD.hasObj m3⟩, (fun _ => trivial), by decide⟩ (wg_one (i := 5) (by kernel_rfl) rfl (lp Try.underlying41 tf69 aX (aq.mono (f.trans k)) au aD fun aa ab ac bv bw C aY aE => (wl_nil (qe_held (listed' := #[true, true, true, true, true, true, true, true, true, false, false, false]) rfl ⟨⟨aE.hasK ((f.trans k).trans C), aE.hasObj m3⟩, (fun _ => trivial), by decide⟩ (wg_one (i := 9) (by kernel_rfl) rfl (lp Try.underlying42 tf72 (aW.mono (k.trans C)) (ar.mono ((f.trans k).trans C)) aw aE.f1 fun ad ae af bz aZ an a0 ag => ?_))))))))))))
 refine wl_nil (qe_held (listed' := #[true, true, true, true, true, true, true, true, true, true, false, false]) rfl ⟨⟨ag.hasK (((f.trans k).trans C).trans an), ag.hasObj m3⟩, (fun _ => trivial), by decide⟩ (wg_val (i := 10) (listed' := #[true, true, true, true, true, true, true, true, true, true, true, false]) (fun _ => True) rfl (by kernel_rfl) (pk_then pk_body) (by kernel_rfl) rfl (by kernel_rfl) (by kernel_rfl) rfl (.inl fun _ _ => trivial) ⟨⟨ag.hasK (((f.trans k).trans C).trans an), ag.hasObj m3⟩, (fun _ => trivial), by decide⟩ wn rfl (fun _ _ => (rv_build (cs := #[.int .i64 p0_d.Id, .slice aa ab ac, .slice ad ae af]) sp44 tf44 rfl (by kernel_rfl))) (wg_one (i := 11) (by kernel_rfl) rfl (ls [.int .i64 p0_d.Id, .slice aa ab ac, .slice ad ae af] (.agg #[.int .i64 p0_d.Id, .slice aa ab ac, .slice ad ae af]) tf44 ag.f2 fun bA ao => (wl_nil (qe_held (listed' := #[true, true, true, true, true, true, true, true, true, true, true, true]) rfl ⟨⟨ao.hasK (((f.trans k).trans C).trans an), ao.hasObj m3⟩, (fun _ => trivial), by decide⟩ (wg_done (by kernel_rfl) (qe_seq (wc_ret ?_)))))))))
 obtain rfl := oi ax
 have a1 := ao.f1.f2.sb (sk (sk (sd (sd sz))))
 exact qe_ret (vs := [_]) Try.results27 ⟨⟨_, _, rfl, run_loadVar_at tf44 (cs := [.int .i64 p0_d.Id, .slice aa ab ac, .slice ad ae af]) (fun j c e => by rw [Nat.zero_add, ao.mem_obj m0]; exact e) (.inl ⟨rfl, rfl, rfl⟩)⟩, trivial⟩ ⟨aa, ab, ac, ad, ae, af, aZ, rfl, a1, ap, (aY.mono an), a0⟩

set_option maxHeartbeats 2000000 in
theorem ok_impl_ShardOf (F : Nat) {w : World} {K : KMap} {A : Option Addr} {B C : Nat} {p0_docs : List GDoc} {p1_many : Int} {p2_which : Int} {r : (List GDoc)} (hS : SH w K [] w K []) (D : SliceAt tGDoc K A B C p0_docs) (au : rng64 p1_many) (aw : rng64 p2_which) (hm : M.impl_ShardOf F p0_docs p1_many p2_which = some r) :
  Calls Try.prog 10 #[.slice A B C, .int .i64 p1_many, .int .i64 p2_which] w fun e w' => ∃ (a_1 : Option Addr) (n_2 c_3 : Nat) (K' : KMap), e = .returned (.slice a_1 n_2 c_3) ∧ SH w K [] w' K' [tail (.slice a_1 n_2 c_3) 44 3] ∧ SliceAt tGDoc K' a_1 n_2 c_3 r := by
 rw [M.impl_ShardOf] at hm
 refine calls_in Try.func10 rfl Try.ntmps10 rfl (sr (lv (rv_assign (v := .slice none 0 0) rfl) (nr (b0 tGDoc Try.underlying23 tf44 hS fun T w8 K9 G ak am => (av rfl (ns (wc_seq ?_)))))))
 obtain ⟨ay, az, aA⟩ := ob hm
 refine wc_cutg (fun E' w' => ∃ b, E' = [(0, .slice A B C), (1, .int .i64 p1_many), (2, .int .i64 p2_which), (7, .slice T 0 0), (19, .bool ay)] ∧ SH w K [] w' b [tail (.slice T 0 0) 44 3] ∧ KLe K9 b) ?_ ?_
 ·refine wc_region (mv rfl ?_)
  obtain ⟨aB, aC, an⟩ := ob az
  refine lc (vs := [.slice A B C]) co8 ((ok_impl_DocsOk F) am.enter0 (D.mono G) aC) ?_
  rintro bv bw ⟨aD, rfl, W⟩
  refine ⟨_, rfl, ?_⟩
  have X := (am.c0 W).t1
  refine lv (rv_not rfl) (mv rfl ?_)
  rcases bool_tf ((!aB)) with a | a
  ·have Y := cond_t a an
   refine lu a (lu a (lu a (lu a (lv (rv_pick_t (v := .bool true) rfl a rfl) (wl_nil ?_)))))
   obtain rfl := oi Y
   exact qd ⟨aD, rfl, X, W.le⟩
  have Y := cond_f a an
  refine lg a (rv_move rfl) (lg a (rv_move rfl) ?_)
  obtain ⟨bx, aE, aF⟩ := ob Y
  refine wl_call (wg rfl rfl a) rfl (rt_call (vs := [.int .i64 p1_many, .int .i64 p2_which]) co26 rfl) ((ok_impl_shardOk F) X.enter0 au aw aE) ?_
  rintro bz bA ⟨aG, rfl, ao⟩
  refine ⟨_, rfl, ?_⟩
  have aH := (X.c0 ao).t1
  refine lg a (rv_not rfl) (lv (rv_pick_f rfl a rfl) (wl_nil ?_))
  obtain rfl := oi aF
  exact qd ⟨aG, rfl, aH, (W.le.trans ao.le)⟩
 rintro _ bB ⟨b, rfl, ap, k⟩
 refine qe_seq (wcc aA rfl (fun aI Z => ?_) (fun aI Z => ?_))
 ·refine sr (mv rfl (av rfl (nq (rr ?_))))
  obtain rfl := oi Z
  exact er Try.results10 ⟨rfl, trivial⟩ ⟨T, 0, 0, b, rfl, ap, (ak.mono k)⟩
 refine wc_skip (qs (sr (mv rfl (lv (rv_len (t := tGDoc) Try.underlying23 rfl (D.mono (G.trans k))) (lv (rv_move (v := .int .i64 0) rfl) (nq ?_))))))
 obtain ⟨aJ, aK, aL⟩ := ob Z
 refine wc_cutg (fun E' w' => ∃ H I J O, E' = [(7, .slice H I J)] ∧ SH w K [] w' O [tail (.slice H I J) 44 3] ∧ KLe b O ∧ SliceAt tGDoc O H I J aJ) ?_ ?_
 ·refine wc_block ?_
  obtain ⟨bC, aM, aN⟩ := ob aK
  refine qF (fun (aq : Nat) (aa : (List GDoc)) E' w' => ∃ c d f i, E' = [(1, .int .i64 p1_many), (2, .int .i64 p2_which), (7, .slice c d f), (21, .slice A B C), (22, .int .i64 (p0_docs.length : Int)), (23, .int .i64 ((aq : Nat) : Int))] ∧ SH w K [] w' i [tail (.slice c d f) 44 3] ∧ KLe b i ∧ SliceAt tGDoc i c d f aa) aM ⟨T, 0, 0, b, rfl, ap, (KLe.refl _), (ak.mono k)⟩ ?_ ?_
  ·rintro aq aa _ aO bD hi65 aP ⟨c, d, f, i, rfl, U, R, V⟩
   refine sr (lv (rv_lss rfl rfl) (ns (wc_cond_t rfl (decide_eq_true (by omega)) (wc_skip (qe_seq (wc_seq (wc_block (sr ?_))))))))
   obtain ⟨l, aQ, aR⟩ := ob aP
   refine li Try.underlying23 tf44 (D.mono ((G.trans k).trans R)) aQ fun aS aT bE aU aV => ?_
   obtain ⟨m, o, q, s, x, y, rfl, aW, aX, aY⟩ := aU
   have aZ : AtK _ aS aT [.int .i64 l.Id, .slice m o q, .slice s x y] := aV
   refine lv (rv_loadS (cs := [.int .i64 l.Id, .slice m o q, .slice s x y]) tf44 rfl U aZ rfl) (al tf44 U fun a0 bF a2 => ?_)
   have a3 : SH _ _ _ _ _ [obj a0 [.int .i64 0, .slice none 0 0, .slice none 0 0] 44, _] := a2
   refine ls [.int .i64 l.Id, .slice m o q, .slice s x y] (.agg #[.int .i64 l.Id, .slice m o q, .slice s x y]) tf44 a3 fun bG S => (nr (fa ff44_0 rfl (lv (rv_loadm1 tf3 rfl m0 S rfl) (mv rfl ?_))))
   obtain ⟨bH, a4, a5⟩ := ob aR
   refine lv (rv_rem rfl rfl a4) (mv rfl (lv (rv_eql rfl rfl) (nq (wcc a5 rfl (fun a6 ab => ?_) (fun a6 ab => ?_)))))
   ·refine wc_region (mv rfl (lv (rv_loadmS (ds := [.int .i64 l.Id, .slice m o q, .slice s x y]) tf44 rfl m0 S rfl rfl) ?_))
    obtain ⟨ac, a8, a9⟩ := ob ab
    refine lc (vs := [.agg #[.int .i64 l.Id, .slice m o q, .slice s x y]]) co27 ((ok_impl_cloneDoc F) S.enter0 aW aX aY a8) ?_
    rintro bI bJ ⟨ad, ae, af, ag, ah, ai, bK, rfl, aj, ba, bb, bc⟩
    refine ⟨_, rfl, ?_⟩
    have bd := (S.c0 aj).t4
    refine lb tGDoc (.agg #[.int .i64 ac.Id, .slice ad ae af, .slice ag ah ai]) [.int .i64 ac.Id, .slice ad ae af, .slice ag ah ai] ac Try.underlying23 tf44 ⟨ad, ae, af, ag, ah, ai, rfl, ba, bb, bc⟩ bd fun bL bM bN ar be bf => ?_
    obtain ⟨bO, bg, bh⟩ := ob a9
    refine lp Try.underlying23 tf44 (V.mono (aj.le.trans ar)) be bg bf.f4 fun bi bj bk bP bl bm bn bo => (av rfl (nb (qg (lv (rv_add_to rfl rfl (w64_succ hi65 (SliceAt.max (D.mono (G.trans k))))) (mv rfl (wl_nil ?_))))))
    obtain rfl := oi bh
    have bp := bo.sb (sk (sd (sd (sd (sd sz)))))
    exact qd ⟨bi, bj, bk, bl, rfl, bp, (((R.trans aj.le).trans ar).trans bm), bn⟩
   refine wc_skip (qe_block (qg (lv (rv_add_to rfl rfl (w64_succ hi65 (SliceAt.max (D.mono (G.trans k))))) (mv rfl (wl_nil ?_)))))
   obtain rfl := oi ab
   have bq := S.sb (sd (sk sz))
   exact qd ⟨c, d, f, i, rfl, bq, R, V⟩
  rintro aa _ aO br ⟨c, d, f, i, rfl, U, R, V⟩
  subst br
  refine sr (lv (rv_lss rfl rfl) (ns (wc_cond_f rfl (decide_eq_false (by omega)) (wc_exit (qe_then_exit (qe_then_exit (qe_block_eq ?_)))))))
  obtain rfl := oi aN
  exact qd ⟨c, d, f, i, rfl, U, R, V⟩
 rintro _ bQ ⟨H, I, J, O, rfl, bs, bR, bt⟩
 refine qr (mv rfl (av rfl (nq (wc_ret ?_))))
 obtain rfl := oi aL
 exact er Try.results10 ⟨rfl, trivial⟩ ⟨H, I, J, O, rfl, bs, bt⟩

set_option maxHeartbeats 2000000 in
theorem ok_laws_FnShardFacet (F : Nat) {w : World} {K : KMap} {a1 : Option Addr} {n2 c3 : Nat} {p0_code : List UInt8} {r : Bool} (hS : SH w K [] w K []) (aP : SliceAt tU8 K a1 n2 c3 p0_code) (hm : M.laws_FnShardFacet F p0_code = some r) :
  Calls Try.prog 3 #[.slice a1 n2 c3] w fun e w' => ∃ (K' : KMap), e = .returned (.bool r) ∧ SH w K [] w' K' [] := by
 rw [M.laws_FnShardFacet] at hm
 refine calls_in Try.func3 rfl Try.ntmps3 rfl (sr (lv (rv_assign (v := .bool false) rfl) (nsr (mv rfl (lv (rv_len (t := tU8) Try.underlying22 rfl aP) (lv (rv_gtr rfl rfl) (nq (wc_cond rfl (fun aq => ?_) (fun aq => ?_)))))))))
 ·have h6 := cond_t aq hm
  refine sr (lv (rv_assign (v := .bool true) rfl) (nq (rr ?_)))
  obtain rfl := oi h6
  exact er Try.results3 ⟨rfl, trivial⟩ ⟨K, rfl, hS⟩
 have h6 := cond_f aq hm
 refine wc_skip (qr (mv rfl ?_))
 obtain ⟨R, bn, h9⟩ := ob h6
 refine lc (vs := [.slice a1 n2 c3]) co4 ((ok_spec_DrawFacetOf F) hS.enter0 aP bn) ?_
 rintro dE dF ⟨s, x, y, A, B, C, dG, rfl, bp, S, T, Y⟩
 refine ⟨_, rfl, ?_⟩
 have aQ := (hS.c0 bp).t1
 refine mv rfl (lv (rv_extract rfl rfl) (lv (rv_extract rfl rfl) (lv (rv_extract rfl rfl) (av rfl (av rfl (av rfl (nr (mv rfl (mv rfl ?_)))))))))
 refine mv rfl ?_
 obtain ⟨dH, bq, br⟩ := ob h9
 refine lc (vs := [.slice s x y, .slice A B C, sv R.2.2]) co5 ((ok_impl_FacetOf F) aQ.enter0 S T Y bq) ?_
 rintro dI dJ ⟨k, l, m, bs, rfl, b, U⟩
 refine ⟨_, rfl, ?_⟩
 have aR := (aQ.c0 b).t2
 refine av rfl (ns (wc_seq ?_))
 obtain ⟨bt, bu, bv⟩ := ob br
 refine wc_cutg (fun E' w' => ∃ au, E' = [(3, .slice s x y), (4, .slice A B C), (5, sv R.2.2), (6, .slice k l m), (42, .bool bt)] ∧ SH w K [] w' au [] ∧ KLe bs au) ?_ ?_
 ·refine wc_region (mv rfl (mv rfl (mv rfl (mv rfl ?_))))
  obtain ⟨dK, bw, bx⟩ := ob bu
  refine lc (vs := [.slice s x y, .slice A B C, sv R.2.2]) co7 ((ok_spec_FacetOf F) aR.enter0 (S.mono b.le) (T.mono b.le) Y bw) ?_
  rintro dL dM ⟨bz, bA, bB, dN, rfl, D, bC⟩
  refine ⟨_, rfl, ?_⟩
  have aS := (aR.c0 D).t3
  obtain ⟨bD, bE, aT⟩ := ob bx
  refine lc (vs := [.slice k l m, .slice bz bA bB]) co6 ((ok_laws_foFacets F) aS.enter0 (U.mono D.le) bC bE) ?_
  rintro dO dP ⟨bF, rfl, V⟩
  refine ⟨_, rfl, ?_⟩
  have aw := (aS.c0 V).t3
  refine lv (rv_not rfl) (mv rfl ?_)
  rcases bool_tf ((!bD)) with c | c
  ·have ax := cond_t c aT
   refine lu c (lu c (lu c (lv (rv_pick_t (v := .bool true) rfl c rfl) (mv rfl (lu rfl (lu rfl (lu rfl (lv (rv_pick_t (v := .bool true) rfl rfl rfl) (wl_nil ?_)))))))))
   obtain rfl := oi ax
   have bG := aw.sb (sd (sd (sd sz)))
   exact qd ⟨bF, rfl, bG, (D.le.trans V.le)⟩
  have ax := cond_f c aT
  refine lg c (rv_move rfl) ?_
  obtain ⟨bH, bI, aU⟩ := ob ax
  refine wl_call (wg rfl rfl c) rfl (rt_call (vs := [.slice s x y]) co8 rfl) ((ok_impl_DocsOk F) aw.enter0 (S.mono ((b.le.trans D.le).trans V.le)) bI) ?_
  rintro dQ dR ⟨bJ, rfl, ai⟩
  refine ⟨_, rfl, ?_⟩
  have ay := (aw.c0 ai).t3
  refine lg c (rv_not rfl) (lv (rv_pick_f rfl c rfl) (mv rfl ?_))
  rcases bool_tf ((!bH)) with d | d
  ·have az := cond_t d aU
   refine lu d (lu d (lu d (lv (rv_pick_t (v := .bool true) rfl d rfl) (wl_nil ?_))))
   obtain rfl := oi az
   have bK := ay.sb (sd (sd (sd sz)))
   exact qd ⟨bJ, rfl, bK, ((D.le.trans V.le).trans ai.le)⟩
  have az := cond_f d aU
  refine lg d (rv_move rfl) ?_
  obtain ⟨dS, bL, bM⟩ := ob az
  refine wl_call (wg rfl rfl d) rfl (rt_call (vs := [.slice A B C]) co9 rfl) ((ok_impl_UpOk F) ay.enter0 (SliceAt.mono (((b.le.trans D.le).trans V.le).trans ai.le) T) bL) ?_
  rintro dT dU ⟨bN, rfl, aV⟩
  refine ⟨_, rfl, ?_⟩
  have bO := (ay.c0 aV).t3
  refine lg d (rv_not rfl) (lv (rv_pick_f rfl d rfl) (wl_nil ?_))
  obtain rfl := oi bM
  have bP := bO.sb (sd (sd (sd sz)))
  exact qd ⟨bN, rfl, bP, (((D.le.trans V.le).trans ai.le).trans aV.le)⟩
 rintro _ dV ⟨au, rfl, aj, f⟩
 refine qe_seq (wcc bv rfl (fun bQ aA => ?_) (fun bQ aA => ?_))
 ·refine sr (mv rfl (mv rfl (mv rfl (mv rfl ?_))))
  obtain ⟨dW, bR, bS⟩ := ob aA
  refine lc (vs := [.slice s x y, .slice A B C, sv R.2.2]) co7 ((ok_spec_FacetOf F) aj.enter0 (S.mono (b.le.trans f)) (T.mono (b.le.trans f)) Y bR) ?_
  rintro dX dY ⟨bT, bU, bV, dZ, rfl, aW, bW⟩
  refine ⟨_, rfl, ?_⟩
  have aX := (aj.c0 aW).t1
  obtain ⟨d0, bX, bY⟩ := ob bS
  refine lc (vs := [.slice k l m, .slice bT bU bV]) co6 ((ok_laws_foFacets F) aX.enter0 (U.mono (f.trans aW.le)) bW bX) ?_
  rintro d1 d2 ⟨bZ, rfl, b0⟩
  refine ⟨_, rfl, ?_⟩
  have b1 := (aX.c0 b0).t1
  refine av rfl (nq (rr ?_))
  obtain rfl := oi bY
  have b2 := b1.sb (sd sz)
  exact er Try.results3 ⟨rfl, trivial⟩ ⟨bZ, rfl, b2⟩
 refine wc_skip (qr (mv rfl ?_))
 obtain ⟨d3, b3, b4⟩ := ob aA
 refine lc (vs := [.slice s x y, .int .i64 2, .int .i64 0]) co10 ((ok_impl_ShardOf F) aj.enter0 (S.mono (b.le.trans f)) (by decide : rng64 2) (by decide : rng64 0) b3) ?_
 rintro d4 d5 ⟨b5, b6, b7, d6, rfl, o, b8⟩
 refine ⟨_, rfl, ?_⟩
 have aY := (aj.c0 o).t1
 refine mv rfl (mv rfl ?_)
 obtain ⟨d7, b9, ca⟩ := ob b4
 refine lc (vs := [.slice b5 b6 b7, .slice A B C, sv R.2.2]) co5 ((ok_impl_FacetOf F) aY.enter0 b8 (T.mono ((b.le.trans f).trans o.le)) Y b9) ?_
 rintro d8 d9 ⟨Z, aa, ab, ea, rfl, G, aB⟩
 refine ⟨_, rfl, ?_⟩
 have aZ := (aY.c0 G).t2
 refine av rfl (nr (mv rfl ?_))
 obtain ⟨eb, cb, cc⟩ := ob ca
 refine lc (vs := [.slice s x y, .int .i64 2, .int .i64 1]) co10 ((ok_impl_ShardOf F) aZ.enter0 (SliceAt.mono (((b.le.trans f).trans o.le).trans G.le) S) (by decide : rng64 2) (by decide : rng64 1) cb) ?_
 rintro ec ed ⟨cd, ce, cf, ee, rfl, i, cg⟩
 refine ⟨_, rfl, ?_⟩
 have a0 := (aZ.c0 i).t3
 refine mv rfl (mv rfl ?_)
 obtain ⟨ef, ch, ci⟩ := ob cc
 refine lc (vs := [.slice cd ce cf, .slice A B C, sv R.2.2]) co5 ((ok_impl_FacetOf F) a0.enter0 cg (SliceAt.mono ((((b.le.trans f).trans o.le).trans G.le).trans i.le) T) Y ch) ?_
 rintro eg eh ⟨ac, ad, ae, aC, rfl, q, aD⟩
 refine ⟨_, rfl, ?_⟩
 have cj := (a0.c0 q).t4
 refine av rfl (nsr (lv (rv_assign (v := .int .i64 0) rfl) (nq ?_)))
 obtain ⟨ck, cl, a2⟩ := ob ci
 refine wc_cutg (fun E' w' => ∃ a3 ak, ck = .inl a3 ∧ E' = [] ∧ SH w K [] w' ak [] ∧ KLe aC ak) ?_ ?_
 ·refine wc_block ?_
  obtain ⟨ei, cm, a4⟩ := ob cl
  have cn := cj.sb (sd (sd (sd (sd sz))))
  refine qw (fun (H : Int) E' w' => ∃ I, E' = [(6, .slice k l m), (7, .slice Z aa ab), (8, .slice ac ad ae), (9, .int .i64 H)] ∧ SH w K [] w' I [] ∧ KLe aC I ∧ rng64 H) cm ⟨aC, rfl, cn, (KLe.refl _), (by decide : rng64 0)⟩ ?_
  rintro H _ ej ek cp a5 ⟨I, rfl, a6, a, el⟩
  refine wc_seq (sr (mv rfl (mv rfl (lv (rv_len (t := tGFacet) Try.underlying27 rfl (SliceAt.mono (((((f.trans o.le).trans G.le).trans i.le).trans q.le).trans a) U)) (lv (rv_lss rfl rfl) (nq (wcc cp rfl (fun cq aE => ?_) (fun cq aE => ?_))))))))
  ·refine wc_skip (qs (wc_block (sr (lv (rv_assign (v := .int .i64 0) rfl) (nsr (lv (rv_assign (v := .int .i64 0) rfl) (nq ?_)))))))
   obtain ⟨a7, cr, cs⟩ := ob aE
   refine wc_cutg (fun E' w' => ∃ W, E' = [(6, .slice k l m), (7, .slice Z aa ab), (8, .slice ac ad ae), (9, .int .i64 H), (10, .int .i64 a7)] ∧ SH w K [] w' W [] ∧ KLe I W ∧ rng64 a7) ?_ ?_
   ·refine wc_block ?_
    obtain ⟨em, ct, cu⟩ := ob cr
    refine qw (fun (af : Int × Int) E' w' => ∃ al, E' = [(6, .slice k l m), (7, .slice Z aa ab), (8, .slice ac ad ae), (9, .int .i64 H), (10, .int .i64 af.1), (11, .int .i64 af.2)] ∧ SH w K [] w' al [] ∧ KLe I al ∧ rng64 af.1 ∧ rng64 af.2) ct ⟨I, rfl, a6, (KLe.refl _), (by decide : rng64 0), (by decide : rng64 0)⟩ ?_
    rintro af _ en eo cv cw ⟨al, rfl, a8, J, a9, ep⟩
    refine wc_seq (sr (mv rfl (mv rfl (lv (rv_len (t := tGFacet) Try.underlying27 rfl (SliceAt.mono (((i.le.trans q.le).trans a).trans J) aB)) (lv (rv_lss rfl rfl) (nq (wcc cv rfl (fun cx aF => ?_) (fun cx aF => ?_))))))))
    ·refine wc_skip (qs (wc_block (wc_seq (wc_quiet mixed (by kernel_rfl) a8 (km rfl (km rfl ?_))))))
     obtain ⟨ba, cy, cz⟩ := ob aF
     refine ki Try.underlying27 tf34 (SliceAt.mono (((i.le.trans q.le).trans a).trans J) aB) cy fun cA cB eq cC cD => ?_
     obtain ⟨rfl, es, et⟩ := cC
     have cE : AtK _ cA cB [.int .i64 ba.Num, .int .i64 ba.Many] := cD
     refine kv (rv_fieldAddr ff34_0 rfl) (kh (rq_load1 tf3 rfl (cE 0 _ rfl)) (km rfl (km rfl ?_)))
     obtain ⟨bb, cF, cG⟩ := ob cz
     refine ki Try.underlying27 tf34 (SliceAt.mono ((((((f.trans o.le).trans G.le).trans i.le).trans q.le).trans a).trans J) U) cF fun cH cI eu cJ cK => ?_
     obtain ⟨rfl, ev, ew⟩ := cJ
     have cL : AtK _ cH cI [.int .i64 bb.Num, .int .i64 bb.Many] := cK
     refine kv (rv_fieldAddr ff34_0 rfl) (kh (rq_load1 tf3 rfl (cL 0 _ rfl)) (kv (rv_eql rfl rfl) (wq_nil ?_)))
     rintro ex ⟨bc, aG, aH⟩
     refine qe_seq (wcc cG rfl (fun cM aI => ?_) (fun cM aI => ?_))
     ·refine wc_region (mv rfl (mv rfl (mv rfl ?_)))
      obtain ⟨bd, cN, cO⟩ := ob aI
      refine li Try.underlying27 tf34 (SliceAt.mono ((((i.le.trans q.le).trans a).trans J).trans aH) aB) cN fun cP cQ ey cR cS => ?_
      obtain ⟨rfl, ez, eA⟩ := cR
      have cT : AtK _ cP cQ [.int .i64 bd.Num, .int .i64 bd.Many] := cS
      refine fa ff34_1 rfl (lv (rv_load1 tf3 rfl aG (cT 1 _ rfl)) (lv (rv_add rfl rfl) (av rfl (nb (qe_seq (wc_region (mv rfl (lv (rv_add rfl rfl) (av rfl ?_)))))))))
      refine wl_nil ?_
      obtain rfl := oi cO
      exact qd ⟨_, rfl, bc, rfl, aG, (J.trans aH), (w64_rng _), (w64_rng _)⟩
     refine wc_skip (qe_block (qe_seq (wc_region (mv rfl (lv (rv_add rfl rfl) (av rfl (wl_nil ?_)))))))
     obtain rfl := oi aI
     exact qd ⟨_, rfl, bc, rfl, aG, (J.trans aH), a9, (w64_rng _)⟩
    refine wc_exit (qe_then_exit (qe_then_exit ?_))
    obtain rfl := oi aF
    have cU := cw _ rfl
    subst cU
    refine qe_block_eq ?_
    obtain rfl := oi cu
    exact qd ⟨al, rfl, a8, J, a9⟩
   rintro _ eB ⟨W, rfl, cV, X, cW⟩
   refine qs (sr (lv (rv_assign (v := .int .i64 0) rfl) (nq ?_)))
   obtain ⟨be, cX, cY⟩ := ob cs
   refine wc_cutg (fun E' w' => ∃ ag, E' = [(6, .slice k l m), (7, .slice Z aa ab), (8, .slice ac ad ae), (9, .int .i64 H), (10, .int .i64 be)] ∧ SH w K [] w' ag [] ∧ KLe W ag ∧ rng64 be) ?_ ?_
   ·refine wc_block ?_
    obtain ⟨eC, cZ, c0⟩ := ob cX
    refine qw (fun (ah : Int × Int) E' w' => ∃ am, E' = [(6, .slice k l m), (7, .slice Z aa ab), (8, .slice ac ad ae), (9, .int .i64 H), (10, .int .i64 ah.1), (12, .int .i64 ah.2)] ∧ SH w K [] w' am [] ∧ KLe W am ∧ rng64 ah.1 ∧ rng64 ah.2) cZ ⟨W, rfl, cV, (KLe.refl _), cW, (by decide : rng64 0)⟩ ?_
    rintro ah _ eD eE c1 c2 ⟨am, rfl, bf, O, bg, eF⟩
    refine wc_seq (sr (mv rfl (mv rfl (lv (rv_len (t := tGFacet) Try.underlying27 rfl (aD.mono ((a.trans X).trans O))) (lv (rv_lss rfl rfl) (nq (wcc c1 rfl (fun c4 aJ => ?_) (fun c4 aJ => ?_))))))))
    ·refine wc_skip (qs (wc_block (wc_seq (wc_quiet mixed (by kernel_rfl) bf (km rfl (km rfl ?_))))))
     obtain ⟨bh, c5, c6⟩ := ob aJ
     refine ki Try.underlying27 tf34 (aD.mono ((a.trans X).trans O)) c5 fun c7 c8 eG c9 da => ?_
     obtain ⟨rfl, eH, eI⟩ := c9
     have db : AtK _ c7 c8 [.int .i64 bh.Num, .int .i64 bh.Many] := da
     refine kv (rv_fieldAddr ff34_0 rfl) (kh (rq_load1 tf3 rfl (db 0 _ rfl)) (km rfl (km rfl ?_)))
     obtain ⟨bi, dc, dd⟩ := ob c6
     refine ki Try.underlying27 tf34 (SliceAt.mono (((((((f.trans o.le).trans G.le).trans i.le).trans q.le).trans a).trans X).trans O) U) dc fun de df eJ dg dh => ?_
     obtain ⟨rfl, eK, eL⟩ := dg
     have di : AtK _ de df [.int .i64 bi.Num, .int .i64 bi.Many] := dh
     refine kv (rv_fieldAddr ff34_0 rfl) (kh (rq_load1 tf3 rfl (di 0 _ rfl)) (kv (rv_eql rfl rfl) (wq_nil ?_)))
     rintro eM ⟨bj, aK, aL⟩
     refine qe_seq (wcc dd rfl (fun dj aM => ?_) (fun dj aM => ?_))
     ·refine wc_region (mv rfl (mv rfl (mv rfl ?_)))
      obtain ⟨bk, dk, dl⟩ := ob aM
      refine li Try.underlying27 tf34 (SliceAt.mono (((a.trans X).trans O).trans aL) aD) dk fun dm dn eN dp dq => ?_
      obtain ⟨rfl, eO, eP⟩ := dp
      have dr : AtK _ dm dn [.int .i64 bk.Num, .int .i64 bk.Many] := dq
      refine fa ff34_1 rfl (lv (rv_load1 tf3 rfl aK (dr 1 _ rfl)) (lv (rv_add rfl rfl) (av rfl (nb (qe_seq (wc_region (mv rfl (lv (rv_add rfl rfl) (av rfl ?_)))))))))
      refine wl_nil ?_
      obtain rfl := oi dl
      exact qd ⟨_, rfl, bj, rfl, aK, (O.trans aL), (w64_rng _), (w64_rng _)⟩
     refine wc_skip (qe_block (qe_seq (wc_region (mv rfl (lv (rv_add rfl rfl) (av rfl (wl_nil ?_)))))))
     obtain rfl := oi aM
     exact qd ⟨_, rfl, bj, rfl, aK, (O.trans aL), bg, (w64_rng _)⟩
    refine wc_exit (qe_then_exit (qe_then_exit ?_))
    obtain rfl := oi aJ
    have ds := c2 _ rfl
    subst ds
    refine qe_block_eq ?_
    obtain rfl := oi c0
    exact qd ⟨am, rfl, bf, O, bg⟩
   rintro _ eQ ⟨ag, rfl, aN, bl, eR⟩
   refine qr (mv rfl (mv rfl (mv rfl ?_)))
   obtain ⟨bm, dt, du⟩ := ob cY
   refine li Try.underlying27 tf34 (SliceAt.mono (((((((f.trans o.le).trans G.le).trans i.le).trans q.le).trans a).trans X).trans bl) U) dt fun dv dw eS dx dy => ?_
   obtain ⟨rfl, eT, eU⟩ := dx
   have dz : AtK _ dv dw [.int .i64 bm.Num, .int .i64 bm.Many] := dy
   refine fa ff34_1 rfl (lv (rv_load1 tf3 rfl aN (dz 1 _ rfl)) (lv (rv_neq rfl rfl) (nq (wcc du rfl (fun dA aO => ?_) (fun dA aO => ?_)))))
   ·refine sr (lv (rv_assign (v := .bool false) rfl) (nq (wc_ret (qe_block_ret (qe_then_ret (qe_then_ret ?_))))))
    obtain rfl := oi aO
    have dB := a5 _ rfl
    subst dB
    refine qe_block_ret (qe_then_ret ?_)
    obtain rfl := oi a4
    refine qe_then_ret ?_
    obtain rfl := oi a2
    exact er Try.results3 ⟨rfl, trivial⟩ ⟨ag, rfl, aN⟩
   refine wc_skip (qe_block (qe_seq (wc_region (mv rfl (lv (rv_add rfl rfl) (av rfl (wl_nil ?_)))))))
   obtain rfl := oi aO
   exact qd ⟨_, rfl, ag, rfl, aN, ((a.trans X).trans bl), (w64_rng _)⟩
  refine wc_exit (qe_then_exit (qe_then_exit ?_))
  obtain rfl := oi aE
  have dC := a5 _ rfl
  subst dC
  refine qe_block_eq ?_
  obtain rfl := oi a4
  exact qe_mid' ⟨_, I, rfl, rfl, a6, a⟩ trivial
 rintro _ eV ⟨a3, ak, rfl, rfl, dD, eW⟩
 refine qr (lv (rv_assign (v := .bool true) rfl) (nq (wc_ret ?_)))
 obtain rfl := oi a2
 exact er Try.results3 ⟨rfl, trivial⟩ ⟨ak, rfl, dD⟩
end Go.Proofs.Ytoeajphlomankaa
