/-
 Walks of the functions. Printed by gen.py.
-/
import Derived.Test.YtmkhlppjphodfaaGreatDoorWalkA0
import Derived.Test.YtmkhlppjphodfaaGreatDoorWalkA2
import Derived.Test.YtmkhlppjphodfaaGreatDoorWalkA3
set_option linter.unusedVariables false
set_option linter.unusedSectionVars false
set_option maxRecDepth 100000
namespace Go.Proofs.YtmkhlppjphodfaaGreatDoor
open Go Go.Fk Go.RowKit Tryz
variable (F : Nat) {w : World} {K : KMap} {Z : List Nat} {g1 g2 g3 : Nat} {A B C D G H I J O R S T : Option Addr} {a b c d f i k l m n o p q s v x y aa ab ac ad ae af ag : Nat}
variable [dr : Dr]

theorem ok_impl_Seg_doc__ofGLive0 {p0_s : GLive} {p1_id : Int} {r : GDoc × Bool} (hS : SH w K Z w K [obj g1 [.slice A a b, .slice B c d, .slice C f i] 93]) (aa : SliceAt tGDoc K A a b p0_s.Seg.Docs) (aR : SliceAt tGEntry K B c d p0_s.Seg.Entries) (aS : SliceAt tInt K C f i p0_s.Dead) (aT : rng64 p1_id) (hm : M.impl_Seg_doc__ofGLive0 F p0_s p1_id = some r) :
  Calls prog 76 #[.pointer (some ⟨g1, 0, none⟩), .int .i64 p1_id] w fun e w' => ∃ a_2 n_3 c_4 a_6 n_7 c_8 K', e = .returned (.tuple #[.agg #[.int .i64 r.1.Id, .slice a_2 n_3 c_4, .slice a_6 n_7 c_8], .bool r.2]) ∧ SH w K Z w' K' [obj g1 [.slice A a b, .slice B c d, .slice C f i] 93] ∧ rng64 r.1.Id ∧ SliceAt tGField K' a_2 n_3 c_4 r.1.Fields ∧ SliceAt tGAttr K' a_6 n_7 c_8 r.1.Nums := by
 rw [M.impl_Seg_doc__ofGLive0] at hm
 refine ci func76 rfl ntmps76 (sr (al tf54 hS fun U aU ar => ?_))
 have am : SH _ _ _ _ _ [obj U [.int .i64 0, .slice none 0 0, .slice none 0 0] 54, _] := ar
 refine lv (rv_assign (v := .bool false) rfl) (nsr (mv rfl (lv (rv_nilCheck rfl) (fa ff46_0 rfl (lv (rv_loadm1 tf35 rfl m1 am rfl) (lv (rv_len (t := tGDoc) underlying35 rfl aa) (lv (rv_move (v := .int .i64 0) rfl) (nq ?_))))))))
 obtain ⟨au, aw, V⟩ := ob hm
 refine wc_cutg (fun E' w' => ∃ D ab ac ad ae af ag G, au = .inl D ∧ E' = [(0, pt g1), (4, pt U)] ∧ SH w K Z w' G [obj g1 [.slice A a b, .slice B c d, .slice C f i] 93, obj U [.int .i64 D.Id, .slice ab ac ad, .slice ae af ag] 54] ∧ KLe K G ∧ rng64 D.Id ∧ SliceAt tGField G ab ac ad D.Fields ∧ SliceAt tGAttr G ae af ag D.Nums) ?_ ?_
 ·refine wc_block ?_
  obtain ⟨aV, ax, an⟩ := ob aw
  refine qf (fun (ao : Nat) (H : GDoc) E' w' => ∃ I J O R S T k, E' = [(0, pt g1), (1, .int .i64 p1_id), (4, pt U), (11, .slice A a b), (12, .int .i64 (p0_s.Seg.Docs.length : Int)), (13, .int .i64 ((ao : Nat) : Int))] ∧ SH w K Z w' k [obj g1 [.slice A a b, .slice B c d, .slice C f i] 93, obj U [.int .i64 H.Id, .slice I J O, .slice R S T] 54] ∧ KLe K k ∧ rng64 H.Id ∧ SliceAt tGField k I J O H.Fields ∧ SliceAt tGAttr k R S T H.Nums) ax ⟨none, 0, 0, none, 0, 0, K, rfl, am.f1, kr, (by decide : rng64 0), (SliceAt.nil _ _), (SliceAt.nil _ _)⟩ ?_ ?_
  ·rintro ao H _ ay aW hi56 az aA ⟨I, J, O, R, S, T, k, rfl, W, X, ah, ai, aj⟩
   refine sr (lv (rv_lss rfl rfl) (ns (wc_cond_t rfl (decide_eq_true (by omega)) (wc_skip (qe_seq (wc_seq (wc_block (sr ?_))))))))
   obtain ⟨y, aB, aC⟩ := ob az
   refine li underlying35 tf54 (aa.mono X) aB fun aD aE aX aF aG => ?_
   obtain ⟨l, m, o, q, s, x, rfl, aH, aI, aJ⟩ := aF
   have aK : AtK _ aD aE [.int .i64 y.Id, .slice l m o, .slice q s x] := aG
   refine lv (rv_loadS (cs := [.int .i64 y.Id, .slice l m o, .slice q s x]) tf54 rfl W aK rfl) (al tf54 W fun aL aY aM => ?_)
   have aN : SH _ _ _ _ _ [obj aL [.int .i64 0, .slice none 0 0, .slice none 0 0] 54, _, _] := aM
   refine ls [.int .i64 y.Id, .slice l m o, .slice q s x] (.agg #[.int .i64 y.Id, .slice l m o, .slice q s x]) tf54 aN fun aZ Y => (nr (fa ff54_0 rfl (lv (rv_loadm1 tf3 rfl m0 Y rfl) (mv rfl (lv (rv_eql rfl rfl) (nq (wcc aC rfl (fun aO ak => ?_) (fun aO ak => ?_))))))))
   ·refine sr (lv (rv_loadmS (ds := [.int .i64 y.Id, .slice l m o, .slice q s x]) tf54 rfl m0 Y rfl rfl) (ls [.int .i64 y.Id, .slice l m o, .slice q s x] (.agg #[.int .i64 y.Id, .slice l m o, .slice q s x]) tf54 Y.f2 fun a0 ap => (lv (rv_assign (v := .bool true) rfl) (nq (wc_ret (qe_block_ret (qe_then_ret (qe_then_ret ?_))))))))
    cases oi ak
    cases aA _ rfl
    refine qe_block_ret (qe_then_ret ?_)
    cases oi an
    refine qe_then_ret ?_
    cases oi V
    exact qe_ret (vs := [_, _]) results76 ⟨⟨_, _, rfl, run_loadVar_at tf54 (cs := [.int .i64 y.Id, .slice l m o, .slice q s x]) (fun j c e => by rw [Nat.zero_add, ap.mem_obj m0]; exact e) (.inl ⟨rfl, rfl, rfl⟩)⟩, rfl, trivial⟩ ⟨l, m, o, q, s, x, k, rfl, ap.s, aH, aI, aJ⟩
   refine wc_skip (qe_block (qg (lv (rv_add_to rfl rfl (w64_succ hi56 (SliceAt.max aa))) (mv rfl (wl_nil ?_)))))
   cases oi ak
   exact qd ⟨_, rfl, I, J, O, R, S, T, k, rfl, Y.s, X, ah, ai, aj⟩
  rintro H _ ay aP ⟨I, J, O, R, S, T, k, rfl, W, X, ah, ai, aj⟩
  subst aP
  refine sr (lv (rv_lss rfl rfl) (ns (wc_cond_f rfl (decide_eq_false (by omega)) (wc_exit (qe_then_exit (qe_then_exit (qe_block_eq ?_)))))))
  cases oi an
  exact qd ⟨_, I, J, O, R, S, T, k, rfl, rfl, W, X, ah, ai, aj⟩
 rintro _ a1 ⟨D, ab, ac, ad, ae, af, ag, G, rfl, rfl, aQ, a2, a3, a4, a5⟩
 have V := elim_l V
 refine qr (lv (rv_build (cs := #[.int .i64 0, .slice none 0 0, .slice none 0 0]) sp54 tf54 rfl (by kernel_rfl)) (ls [.int .i64 0, .slice none 0 0, .slice none 0 0] (.agg #[.int .i64 0, .slice none 0 0, .slice none 0 0]) tf54 aQ.f1 fun a6 aq => (lv (rv_assign (v := .bool false) rfl) (nq (wc_ret ?_)))))
 cases oi V
 exact qe_ret (vs := [_, _]) results76 ⟨⟨_, _, rfl, run_loadVar_at tf54 (cs := [.int .i64 0, .slice none 0 0, .slice none 0 0]) (fun j c e => by rw [Nat.zero_add, aq.mem_obj m0]; exact e) (.inl ⟨rfl, rfl, rfl⟩)⟩, rfl, trivial⟩ ⟨none, 0, 0, none, 0, 0, G, rfl, aq.s, (by decide : rng64 0), (SliceAt.nil _ _), (SliceAt.nil _ _)⟩

set_option maxHeartbeats 2000000 in
theorem ok_impl_liveOk {p0_c : GConf} {p1_l : GLive} {r : Bool} (hS : SH w K [] w K []) (au : SliceAt tStr K A a b p0_c.Stops) (aw : SliceAt tGSyn K B c d p0_c.Syns) (T : SliceAt tGDoc K C f i p1_l.Seg.Docs) (U : SliceAt tGEntry K D k l p1_l.Seg.Entries) (y : SliceAt tInt K G m n p1_l.Dead) (hm : M.impl_liveOk F p0_c p1_l = some r) :
  Calls prog 62 #[.agg #[.slice A a b, .slice B c d], .agg #[.slice C f i, .slice D k l, .slice G m n]] w fun e w' => ∃ K', e = .returned (.bool r) ∧ SH w K [] w' K' [] := by
 rw [M.impl_liveOk] at hm
 refine ci func62 rfl ntmps62 (sr (bx rfl hS fun ax bf ay => ?_))
 have az : SH _ _ _ _ _ [obj ax [.slice A a b, .slice B c d] 26] := ay
 refine bx rfl az fun s bg aA => ?_
 have I : SH _ _ _ _ _ [obj s [.slice C f i, .slice D k l, .slice G m n] 93, _] := aA
 refine lv (rv_assign (v := .bool false) rfl) (ns (wc_seq ?_))
 obtain ⟨aB, aC, aD⟩ := ob hm
 refine wc_cutg (IV w K [] K [(3, pt s), (19, .bool aB)] [obj s [.slice C f i, .slice D k l, .slice G m n] 93]) ?_ ?_
 ·refine wc_region (lv (rv_loadmS (ds := [.slice A a b, .slice B c d]) tf26 rfl m1 I rfl rfl) (fa ff93_0 rfl (lv (rv_loadmS (ds := [.slice C f i, .slice D k l]) tf46 rfl m0 I rfl rfl) ?_)))
  obtain ⟨bh, aE, aF⟩ := ob aC
  refine lk co25 ((ok_impl_SegOk F) I.enter0 au aw T U aE) ?_
  rintro bi bj ⟨aG, rfl, J⟩
  have O := (I.c0 J).t2
  refine lv (rv_not rfl) (mv rfl (bt aF (fun o V => ?_) (fun o V => ?_)))
  ·refine lu o (lu o (lu o (lu o (lv (rv_pick_t (v := .bool true) rfl o rfl) (wl_nil ?_)))))
   cases oi V
   exact qd ⟨aG, rfl, O.s, J.le⟩
  refine lg o (rv_fieldAddr ff93_1 rfl) (lg o (rv_loadm1 tf55 rfl m0 O rfl) ?_)
  obtain ⟨bk, aH, aI⟩ := ob V
  refine wl_call (wg rfl rfl o) rfl (rt_call (vs := [.slice G m n]) co109 rfl) ((ok_impl_UpOk F) O.enter0 (y.mono J.le) aH) ?_
  rintro bl bm ⟨aJ, rfl, ac⟩
  refine ⟨_, rfl, ?_⟩
  have aK := (O.c0 ac).t2
  refine lg o (rv_not rfl) (lv (rv_pick_f rfl o rfl) (wl_nil ?_))
  cases oi aI
  exact qd ⟨aJ, rfl, aK.s, (J.le.trans ac.le)⟩
 rintro _ bn ⟨R, rfl, W, q⟩
 refine qe_seq (wcc aD rfl (fun aL X => ?_) (fun aL X => ?_))
 ·refine sr (lv (rv_assign (v := .bool false) rfl) (nq (rr ?_)))
  cases oi X
  exact ey results62 ⟨R, rfl, W.s⟩
 refine wc_skip (qs (sr (fa ff93_1 rfl (lv (rv_loadm1 tf55 rfl m0 W rfl) (lv (rv_len (t := tInt) underlying55 rfl (y.mono q)) (lv (rv_move (v := .int .i64 0) rfl) (nq ?_)))))))
 obtain ⟨aM, aN, S⟩ := ob X
 refine wc_cutg (IE aM w K [] R [(3, pt s)] [obj s [.slice C f i, .slice D k l, .slice G m n] 93]) ?_ ?_
 ·refine wc_block ?_
  obtain ⟨bo, aO, ad⟩ := ob aN
  refine qf (fun (ae : Nat) (af : Unit) => IV w K [] R [(3, pt s), (21, .slice G m n), (22, .int .i64 (p1_l.Dead.length : Int)), (23, .int .i64 ((ae : Nat) : Int))] [obj s [.slice C f i, .slice D k l, .slice G m n] 93]) aO ⟨R, rfl, W, kr⟩ ?_ ?_
  ·rintro ae af _ aP bp hi77 aQ aR ⟨ag, rfl, H, x⟩
   refine sr (lv (rv_lss rfl rfl) (ns (wc_cond_t rfl (decide_eq_true (by omega)) (wc_skip (qe_seq (wc_seq (wc_block (sr ?_))))))))
   obtain ⟨aS, aT, aU⟩ := ob aQ
   refine li underlying55 tf3 (y.mono (q.trans x)) aT fun aV aW bq aX aY => ?_
   obtain ⟨rfl, aZ⟩ := aX
   have a0 : AtK _ aV aW [.int .i64 aS] := aY
   refine lv (rv_load1 tf3 rfl H (a0 0 _ rfl)) (av rfl (nr (fa ff93_0 rfl (mv rfl ?_))))
   obtain ⟨ah, a1, a2⟩ := ob aU
   refine lk co76 ((ok_impl_Seg_doc__ofGLive0 F) H.e1 (T.mono (q.trans x)) (U.mono (q.trans x)) (y.mono (q.trans x)) aZ a1) ?_
   rintro br bs ⟨ai, aj, ak, am, an, ao, ap, rfl, aq, bu, bv, bz⟩
   have a3 := (H.c1 aq).t1
   refine mv rfl (lv (rv_extract rfl rfl) (lv (rv_extract rfl rfl) (al tf54 a3 fun a4 bA a5 => ?_)))
   have a6 : SH _ _ _ _ _ [obj a4 [.int .i64 0, .slice none 0 0, .slice none 0 0] 54, _] := a5
   refine ls [.int .i64 ah.1.Id, .slice ai aj ak, .slice am an ao] (.agg #[.int .i64 ah.1.Id, .slice ai aj ak, .slice am an ao]) tf54 a6 fun bB ar => (av rfl (nr (mv rfl (lv (rv_not rfl) (nq (wcc a2 rfl (fun a7 Y => ?_) (fun a7 Y => ?_)))))))
   ·refine sr (lv (rv_assign (v := .bool false) rfl) (nq (wc_ret (qe_block_ret (qe_then_ret (qe_then_ret ?_))))))
    cases oi Y
    cases aR _ rfl
    refine qe_block_ret (qe_then_ret ?_)
    cases oi ad
    refine qe_then_ret ?_
    cases oi S
    exact ey results62 ⟨ap, rfl, ar.s⟩
   refine wc_skip (qe_block (qg (lv (rv_add_to rfl rfl (w64_succ hi77 (SliceAt.max (y.mono q)))) (mv rfl (wl_nil ?_)))))
   cases oi Y
   exact qd ⟨_, rfl, ap, rfl, ar.s, (x.trans aq.le)⟩
  rintro af _ aP a8 ⟨ag, rfl, H, x⟩
  subst a8
  refine sr (lv (rv_lss rfl rfl) (ns (wc_cond_f rfl (decide_eq_false (by omega)) (wc_exit (qe_then_exit (qe_then_exit (qe_block_eq ?_)))))))
  cases oi ad
  exact qd ⟨_, ag, rfl, rfl, H, x⟩
 rintro _ bC ⟨bD, bE, rfl, rfl, aa, ab⟩
 have S := elim_l S
 refine qr (lv (rv_loadmS (ds := [.slice C f i, .slice D k l, .slice G m n]) tf93 rfl m0 aa rfl rfl) ?_)
 obtain ⟨bF, a9, ba⟩ := ob S
 refine lk co110 ((ok_impl_Live_alive F) aa.enter0 (T.mono (q.trans ab)) (U.mono (q.trans ab)) (y.mono (q.trans ab)) a9) ?_
 rintro bG bH ⟨bI, bJ, bK, bb, rfl, bc, bd⟩
 have be := (aa.c0 bc).t2
 refine lv (rv_len (t := tGDoc) underlying35 rfl bd) (lv (rv_gtr rfl rfl) (av rfl (nq (wc_ret ?_))))
 cases oi ba
 exact ey results62 ⟨bb, rfl, be.s⟩

theorem ok_cmp_isNaN_int {p0_x : Int} {r : Bool} (hS : SH w K [] w K []) (a : rng64 p0_x) (hm : M.cmp_isNaN_int F p0_x = some r) :
  Calls prog 164 #[.int .i64 p0_x] w fun e w' => ∃ K', e = .returned (.bool r) ∧ SH w K [] w' K' [] := by
 rw [M.cmp_isNaN_int] at hm
 refine ci func164 rfl ntmps164 (sr (lv (rv_assign (v := .bool false) rfl) (nr (mv rfl (mv rfl (lv (rv_neq rfl rfl) (av rfl (nq (wc_ret ?_)))))))))
 cases oi hm
 exact ey results164 ⟨K, rfl, hS⟩

theorem ok_cmp_Compare_int {p0_x : Int} {p1_y : Int} {r : Int} (hS : SH w K [] w K []) (m : rng64 p0_x) (o : rng64 p1_y) (hm : M.cmp_Compare_int F p0_x p1_y = some r) :
  Calls prog 114 #[.int .i64 p0_x, .int .i64 p1_y] w fun e w' => ∃ K', e = .returned (.int .i64 r) ∧ SH w K [] w' K' [] ∧ rng64 r := by
 rw [M.cmp_Compare_int] at hm
 refine ci func114 rfl ntmps114 (sr (lv (rv_assign (v := .int .i64 0) rfl) (nr (mv rfl ?_))))
 obtain ⟨J, q, s⟩ := ob hm
 refine lk co164 ((ok_cmp_isNaN_int F) hS.enter0 m q) ?_
 rintro O R ⟨S, rfl, x⟩
 have l := (hS.c0 x).t0
 refine av rfl (nr (mv rfl ?_))
 obtain ⟨T, y, A⟩ := ob s
 refine lk co164 ((ok_cmp_isNaN_int F) l.enter0 o y) ?_
 rintro U V ⟨a, rfl, B⟩
 have b := (l.c0 B).t0
 refine av rfl (nsr (mv rfl (nq (wcc A rfl (fun C c => ?_) (fun C c => ?_)))))
 ·refine wc_seq (sr (mv rfl (nq (wcc c rfl (fun D d => ?_) (fun D d => ?_)))))
  ·refine sr (lv (rv_assign (v := .int .i64 0) rfl) (nq (rr (qe_then_ret ?_))))
   cases oi d
   exact ey results114 ⟨a, rfl, b, (by decide : rng64 0)⟩
  refine wc_skip (qr (lv (rv_assign (v := .int .i64 (-1)) rfl) (nq (rr ?_))))
  cases oi d
  exact ey results114 ⟨a, rfl, b, (by decide : rng64 (-1))⟩
 refine wc_skip (qs (sr (mv rfl (nq (wcc c rfl (fun G f => ?_) (fun G f => ?_))))))
 ·refine sr (lv (rv_assign (v := .int .i64 1) rfl) (nq (rr ?_)))
  cases oi f
  exact ey results114 ⟨a, rfl, b, (by decide : rng64 1)⟩
 refine wc_skip (qs (sr (mv rfl (mv rfl (lv (rv_lss rfl rfl) (nq (wcc f rfl (fun H i => ?_) (fun H i => ?_))))))))
 ·refine sr (lv (rv_assign (v := .int .i64 (-1)) rfl) (nq (rr ?_)))
  cases oi i
  exact ey results114 ⟨a, rfl, b, (by decide : rng64 (-1))⟩
 refine wc_skip (qs (sr (mv rfl (mv rfl (lv (rv_gtr rfl rfl) (nq (wcc i rfl (fun I k => ?_) (fun I k => ?_))))))))
 ·refine sr (lv (rv_assign (v := .int .i64 1) rfl) (nq (rr ?_)))
  cases oi k
  exact ey results114 ⟨a, rfl, b, (by decide : rng64 1)⟩
 refine wc_skip (qr (lv (rv_assign (v := .int .i64 0) rfl) (nq (wc_ret ?_))))
 cases oi k
 exact ey results114 ⟨a, rfl, b, (by decide : rng64 0)⟩

theorem ok_impl_allAlive_1 {p0_a : GDoc} {p1_b : GDoc} {r : Int} (hS : SH w K [] w K []) (o : rng64 p0_a.Id) (U : SliceAt tGField K A a b p0_a.Fields) (V : SliceAt tGAttr K B c d p0_a.Nums) (q : rng64 p1_b.Id) (W : SliceAt tGField K C f i p1_b.Fields) (X : SliceAt tGAttr K D k l p1_b.Nums) (hm : M.impl_allAlive_1 F p0_a p1_b = some r) :
  Calls prog 113 #[.agg #[.int .i64 p0_a.Id, .slice A a b, .slice B c d], .agg #[.int .i64 p1_b.Id, .slice C f i, .slice D k l]] w fun e w' => ∃ K', e = .returned (.int .i64 r) ∧ SH w K [] w' K' [] ∧ rng64 r := by
 rw [M.impl_allAlive_1] at hm
 refine ci func113 rfl ntmps113 (sr (bx rfl hS fun s Y x => ?_))
 have y : SH _ _ _ _ _ [obj s [.int .i64 p0_a.Id, .slice A a b, .slice B c d] 54] := x
 refine bx rfl y fun G aa H => ?_
 have m : SH _ _ _ _ _ [obj G [.int .i64 p1_b.Id, .slice C f i, .slice D k l] 54, _] := H
 refine lv (rv_assign (v := .int .i64 0) rfl) (nr (fa ff54_0 rfl (lv (rv_loadm1 tf3 rfl m1 m rfl) (fa ff54_0 rfl (lv (rv_loadm1 tf3 rfl m0 m rfl) ?_)))))
 obtain ⟨ab, I, J⟩ := ob hm
 refine lk co114 ((ok_cmp_Compare_int F) m.enter0 o q I) ?_
 rintro ac ad ⟨O, rfl, R, S⟩
 have T := (m.c0 R).t2
 refine av rfl (nq (wc_ret ?_))
 cases oi J
 exact ey results113 ⟨O, rfl, T.s, S⟩

theorem ok_impl_allAlive {p0_segs : List GLive} {r : (List GDoc)} (hS : SH w K [] w K []) (U : SliceAt tGLive K A a b p0_segs) (hm : M.impl_allAlive F p0_segs = some r) :
  Calls prog 64 #[.slice A a b] w fun e w' => ∃ a_1 n_2 c_3 K', e = .returned (.slice a_1 n_2 c_3) ∧ SH w K [] w' K' [tail (.slice a_1 n_2 c_3) 54 3] ∧ SliceAt tGDoc K' a_1 n_2 c_3 r := by
 rw [M.impl_allAlive] at hm
 refine ci func64 rfl ntmps64 (sr (lv (rv_assign (v := .slice none 0 0) rfl) (nr (wl_buildSlice0R tGDoc wn rfl underlying35 tf54 hS fun a5 w6 ac => (av rfl (nsr (mv rfl (lv (rv_len (t := tGLive) underlying28 rfl U) (lv (rv_move (v := .int .i64 0) rfl) ?_)))))))))
 refine nq ?_
 obtain ⟨Y, h9, ae⟩ := ob hm
 refine wc_cutg (fun E' w' => ∃ i c k cs18 J, E' = [(3, .slice i c k)] ∧ SH w K [] w' J [rowI (.slice i c k) cs18 54 3] ∧ KLe K J ∧ RowAt true tGDoc J cs18 Y ∧ c = Y.length) ?_ ?_
 ·refine wc_block ?_
  obtain ⟨a2, af, ag⟩ := ob h9
  refine qF (fun (aa : Nat) (O : (List GDoc)) E' w' => ∃ l d m cs33 f, E' = [(3, .slice l d m), (7, .slice A a b), (8, .int .i64 (p0_segs.length : Int)), (9, .int .i64 ((aa : Nat) : Int))] ∧ SH w K [] w' f [rowI (.slice l d m) cs33 54 3] ∧ KLe K f ∧ RowAt true tGDoc f cs33 O ∧ d = O.length) af ⟨a5, 0, 0, [], K, rfl, ac, kr, (RowAt.nil tGDoc _), rfl⟩ ?_ ?_
  ·rintro aa O _ ah a3 hi37 ai ⟨l, d, m, cs33, f, rfl, R, S, hrow34, hm35⟩
   refine sr (lv (rv_lss rfl rfl) (ns (wc_cond_t rfl (decide_eq_true (by omega)) (wc_skip (qe_seq (wc_seq (wc_block (sr ?_))))))))
   obtain ⟨a4, aj, ak⟩ := ob ai
   refine li underlying28 tf93 (U.mono S) aj fun am an a6 ao ap => ?_
   obtain ⟨o, q, s, B, C, D, G, H, I, rfl, aq, ar, au⟩ := ao
   have aw : AtK _ am an [.slice o q s, .slice B C D, .slice G H I] := ap
   refine lv (rv_loadS (cs := [.slice o q s, .slice B C D, .slice G H I]) tf93 rfl R aw rfl) (al tf93 R fun ax a7 ay => ?_)
   have az : SH _ _ _ _ _ [obj ax [.slice none 0 0, .slice none 0 0, .slice none 0 0] 93, _] := ay
   refine ls [.slice o q s, .slice B C D, .slice G H I] (.agg #[.slice o q s, .slice B C D, .slice G H I]) tf93 az fun a8 V => (nq (wc_region (mv rfl (lv (rv_loadmS (ds := [.slice o q s, .slice B C D, .slice G H I]) tf93 rfl m0 V rfl rfl) ?_))))
   obtain ⟨a9, aA, aB⟩ := ob ak
   refine lk co110 ((ok_impl_Live_alive F) V.enter0 aq ar au aA) ?_
   rintro ba bb ⟨bc, bd, be, aC, rfl, X, aD⟩
   have aE := (V.c0 X).t3
   obtain ⟨bf, aF, aG⟩ := ob aB
   refine wl_appendR (t := tGDoc) wn rfl underlying35 tf54 rfl rfl rfl rfl (RowAt.mono X.le hrow34) hm35 aD aF aE.f2 fun aH aI aJ cs86 bg hrow88 hm89 aK => (av rfl (nb (qg (lv (rv_add_to rfl rfl (w64_succ hi37 (SliceAt.max U))) (mv rfl (wl_nil ?_))))))
   cases oi aG
   exact qd ⟨aH, aI, aJ, cs86, aC, rfl, aK.s, (S.trans X.le), hrow88, hm89⟩
  rintro O _ ah aL ⟨l, d, m, cs33, f, rfl, R, S, hrow34, hm35⟩
  subst aL
  refine sr (lv (rv_lss rfl rfl) (ns (wc_cond_f rfl (decide_eq_false (by omega)) (wc_exit (qe_then_exit (qe_then_exit (qe_block_eq ?_)))))))
  cases oi ag
  exact qd ⟨l, d, m, cs33, f, rfl, R, S, hrow34, hm35⟩
 rintro _ bh ⟨i, c, k, cs18, J, rfl, aM, bi, hrow19, hm20⟩
 refine qr (mv rfl ?_)
 obtain ⟨bj, aN, aO⟩ := ob ae
 refine wl_call wn rfl (rt_call (vs := [.slice i c k, .func (.func 113) #[] #[]]) co112 rfl) (sort_rowI (T := tGDoc) sortLay112 sortNone112 rfl (fun w => Go.Fk.run_isAgg tf54 w) (fun w => Go.Fk.run_sizeOf tf54 w) (fun a b => M.impl_allAlive_1 F a b) 113 (Go.Proofs.enters_of func113 (by kernel_rfl) rfl) aM hrow19 hm20 (fun K1 W v x u y r hW h1 h2 hm => by
  obtain ⟨bl, bm, bn, bo, bp, bq, rfl, aR, aS, aT⟩ := h1
  obtain ⟨br, bs, bu, bv, bx, bz, rfl, aU, aV, aW⟩ := h2
  exact (ok_impl_allAlive_1 (dr := ⟨True⟩) F (SH.start (dr := ⟨True⟩) hW) aR aS aT aU aV aW hm).mono fun e w' ⟨K', he, hS', _⟩ => ⟨K', he, hS'⟩) aN) ?_
 rintro bA bB ⟨cs114, rfl, aX, hrow116, hm117⟩
 refine ⟨_, rfl, ?_⟩
 refine nr (mv rfl (av rfl (nq (wc_ret ?_))))
 obtain ⟨aY, bC, aZ, a0⟩ := SH.freezeI aX hrow116 hm117
 cases oi aO
 exact ey results64 ⟨i, c, k, aY, rfl, a0, aZ⟩

set_option maxHeartbeats 2000000 in
theorem ok_impl_IndexOk {p0_x : GIndex} {r : Bool} (hS : SH w K [] w K []) (ae : SliceAt tStr K A a b p0_x.Conf.Stops) (af : SliceAt tGSyn K B c d p0_x.Conf.Syns) (q : SliceAt tGLive K C f i p0_x.Segs) (hm : M.impl_IndexOk F p0_x = some r) :
  Calls prog 20 #[.agg #[.slice A a b, .slice B c d, .slice C f i]] w fun e w' => ∃ K', e = .returned (.bool r) ∧ SH w K [] w' K' [] := by
 rw [M.impl_IndexOk] at hm
 refine ci func20 rfl ntmps20 (sr (bx rfl hS fun l a7 aq => ?_))
 have W : SH _ _ _ _ _ [obj l [.slice A a b, .slice B c d, .slice C f i] 30] := aq
 refine lv (rv_assign (v := .bool false) rfl) (ns (wc_seq ?_))
 obtain ⟨ar, au, aw⟩ := ob hm
 refine wc_cutg (IV w K [] K [(1, pt l), (14, .bool ar)] [obj l [.slice A a b, .slice B c d, .slice C f i] 30]) ?_ ?_
 ·refine wc_region (fa ff30_0 rfl (lv (rv_loadmS (ds := [.slice A a b, .slice B c d]) tf26 rfl m0 W rfl rfl) ?_))
  obtain ⟨a8, ax, ay⟩ := ob au
  refine lk co19 ((ok_impl_ConfOk F) W.enter0 ae af ax) ?_
  rintro a9 ba ⟨ag, rfl, R⟩
  have X := (W.c0 R).t1
  refine lv (rv_not rfl) (mv rfl (bt ay (fun k Y => ?_) (fun k Y => ?_)))
  ·refine lu k (lu k (lu k (lu k (lv (rv_pick_t (v := .bool true) rfl k rfl) (wl_nil ?_)))))
   cases oi Y
   exact qd ⟨ag, rfl, X, R.le⟩
  refine lg k (rv_fieldAddr ff30_1 rfl) (lg k (rv_loadm1 tf28 rfl m0 X rfl) (lg k (rv_len (t := tGLive) underlying28 rfl (q.mono R.le)) (lg k (rv_gtr rfl rfl) (lv (rv_pick_f rfl k rfl) (wl_nil ?_)))))
  cases oi Y
  exact qd ⟨ag, rfl, X, R.le⟩
 rintro _ bb ⟨S, rfl, aa, m⟩
 refine qe_seq (wcc aw rfl (fun az ab => ?_) (fun az ab => ?_))
 ·refine sr (lv (rv_assign (v := .bool false) rfl) (nq (rr ?_)))
  cases oi ab
  exact ey results20 ⟨S, rfl, aa.s⟩
 refine wc_skip (qs (sr (fa ff30_1 rfl (lv (rv_loadm1 tf28 rfl m0 aa rfl) (lv (rv_len (t := tGLive) underlying28 rfl (q.mono m)) (lv (rv_move (v := .int .i64 0) rfl) (nq ?_)))))))
 obtain ⟨aA, aB, T⟩ := ob ab
 refine wc_cutg (IE aA w K [] S [(1, pt l)] [obj l [.slice A a b, .slice B c d, .slice C f i] 30]) ?_ ?_
 ·refine wc_block ?_
  obtain ⟨bc, aC, ah⟩ := ob aB
  refine qf (fun (ai : Nat) (aj : Unit) => IV w K [] S [(1, pt l), (16, .slice C f i), (17, .int .i64 (p0_x.Segs.length : Int)), (18, .int .i64 ((ai : Nat) : Int))] [obj l [.slice A a b, .slice B c d, .slice C f i] 30]) aC ⟨S, rfl, aa, kr⟩ ?_ ?_
  ·rintro ai aj _ aD bd hi55 aE aF ⟨ak, rfl, U, o⟩
   refine sr (lv (rv_lss rfl rfl) (ns (wc_cond_t rfl (decide_eq_true (by omega)) (wc_skip (qe_seq (wc_seq (wc_block (sr ?_))))))))
   obtain ⟨be, aG, aH⟩ := ob aE
   refine li underlying28 tf93 (q.mono (m.trans o)) aG fun aI aJ bf aK aL => ?_
   obtain ⟨s, x, y, D, G, H, I, J, O, rfl, aM, aN, aO⟩ := aK
   have aP : AtK _ aI aJ [.slice s x y, .slice D G H, .slice I J O] := aL
   refine lv (rv_loadS (cs := [.slice s x y, .slice D G H, .slice I J O]) tf93 rfl U aP rfl) (al tf93 U fun aQ bg aR => ?_)
   have aS : SH _ _ _ _ _ [obj aQ [.slice none 0 0, .slice none 0 0, .slice none 0 0] 93, _] := aR
   refine ls [.slice s x y, .slice D G H, .slice I J O] (.agg #[.slice s x y, .slice D G H, .slice I J O]) tf93 aS fun bh V => (nr (fa ff30_0 rfl (lv (rv_loadmS (ds := [.slice A a b, .slice B c d]) tf26 rfl m1 V rfl rfl) (lv (rv_loadmS (ds := [.slice s x y, .slice D G H, .slice I J O]) tf93 rfl m0 V rfl rfl) ?_))))
   obtain ⟨bi, aT, aU⟩ := ob aH
   refine lk co62 ((ok_impl_liveOk F) V.enter0 (ae.mono (m.trans o)) (af.mono (m.trans o)) aM aN aO aT) ?_
   rintro bj bk ⟨am, rfl, an⟩
   have ao := (V.c0 an).t2
   refine lv (rv_not rfl) (nq (wcc aU rfl (fun aV ac => ?_) (fun aV ac => ?_)))
   ·refine sr (lv (rv_assign (v := .bool false) rfl) (nq (wc_ret (qe_block_ret (qe_then_ret (qe_then_ret ?_))))))
    cases oi ac
    cases aF _ rfl
    refine qe_block_ret (qe_then_ret ?_)
    cases oi ah
    refine qe_then_ret ?_
    cases oi T
    exact ey results20 ⟨am, rfl, ao.s⟩
   refine wc_skip (qe_block (qg (lv (rv_add_to rfl rfl (w64_succ hi55 (SliceAt.max (q.mono m)))) (mv rfl (wl_nil ?_)))))
   cases oi ac
   exact qd ⟨_, rfl, am, rfl, ao.s, (o.trans an.le)⟩
  rintro aj _ aD aW ⟨ak, rfl, U, o⟩
  subst aW
  refine sr (lv (rv_lss rfl rfl) (ns (wc_cond_f rfl (decide_eq_false (by omega)) (wc_exit (qe_then_exit (qe_then_exit (qe_block_eq ?_)))))))
  cases oi ah
  exact qd ⟨_, ak, rfl, rfl, U, o⟩
 rintro _ bl ⟨bm, bn, rfl, rfl, ad, aX⟩
 have T := elim_l T
 refine qr (fa ff30_1 rfl (lv (rv_loadm1 tf28 rfl m0 ad rfl) ?_))
 obtain ⟨bo, aY, aZ⟩ := ob T
 refine lk co64 ((ok_impl_allAlive F) ad.enter0 (q.mono (m.trans aX)) aY) ?_
 rintro bp bq ⟨br, bs, bu, bv, rfl, a0, a1⟩
 have ap := (ad.c0 a0).t2
 obtain ⟨bz, a2, a3⟩ := ob aZ
 refine lk co63 ((ok_impl_DocsOk F) ap.enter0 a1 a2) ?_
 rintro bA bB ⟨a4, rfl, a5⟩
 have a6 := (ap.c0 a5).t2
 refine av rfl (nq (wc_ret ?_))
 cases oi a3
 exact ey results20 ⟨a4, rfl, a6.s⟩

theorem ok_impl_IndexDocs {p0_x : GIndex} {r : (List GDoc)} (hS : SH w K [] w K []) (x : SliceAt tStr K A a b p0_x.Conf.Stops) (y : SliceAt tGSyn K B c d p0_x.Conf.Syns) (o : SliceAt tGLive K C f i p0_x.Segs) (hm : M.impl_IndexDocs F p0_x = some r) :
  Calls prog 21 #[.agg #[.slice A a b, .slice B c d, .slice C f i]] w fun e w' => ∃ a_1 n_2 c_3 K', e = .returned (.slice a_1 n_2 c_3) ∧ SH w K [] w' K' [tail (.slice a_1 n_2 c_3) 54 3] ∧ SliceAt tGDoc K' a_1 n_2 c_3 r := by
 rw [M.impl_IndexDocs] at hm
 refine ci func21 rfl ntmps21 (sr (bx rfl hS fun D ai G => ?_))
 have l : SH _ _ _ _ _ [obj D [.slice A a b, .slice B c d, .slice C f i] 30] := G
 refine lv (rv_assign (v := .slice none 0 0) rfl) (nsr (lv (rv_loadmS (ds := [.slice A a b, .slice B c d, .slice C f i]) tf30 rfl m0 l rfl rfl) ?_))
 obtain ⟨aj, H, I⟩ := ob hm
 refine lk co20 ((ok_impl_IndexOk F) l.enter0 x y o H) ?_
 rintro ak al ⟨am, rfl, q⟩
 have k := (l.c0 q).t1
 refine lv (rv_not rfl) (nq (wcc I rfl (fun J m => ?_) (fun J m => ?_)))
 ·refine sr (b0 tGDoc underlying35 tf54 k fun O an R ao S T => (av rfl (nq (rr ?_))))
  cases oi m
  exact ey results21 ⟨O, 0, 0, R, rfl, T.s, S⟩
 refine wc_skip (qr (fa ff30_1 rfl (lv (rv_loadm1 tf28 rfl m0 k rfl) ?_)))
 obtain ⟨ap, U, V⟩ := ob m
 refine lk co64 ((ok_impl_allAlive F) k.enter0 (o.mono q.le) U) ?_
 rintro aq ar ⟨au, aw, ax, ay, rfl, W, X⟩
 have s := (k.c0 W).t2
 obtain ⟨az, Y, aa⟩ := ob V
 refine lk co65 ((ok_impl_cloneDocs F) s.enter0 X Y) ?_
 rintro aA aB ⟨ab, ac, ad, ae, rfl, af, ag⟩
 have ah := (s.c0 af).t3
 refine av rfl (nq (wc_ret ?_))
 cases oi aa
 exact ey results21 ⟨ab, ac, ad, ae, rfl, ah.s, ag⟩

theorem ok_impl_hitOrder {p0_a : GHit} {p1_b : GHit} {r : Int} (hS : SH w K [] w K []) (y : rng64 p0_a.Doc) (A : rng64 p0_a.Points) (B : rng64 p1_b.Doc) (C : rng64 p1_b.Points) (hm : M.impl_hitOrder F p0_a p1_b = some r) :
  Calls prog 145 #[.agg #[.int .i64 p0_a.Doc, .int .i64 p0_a.Points], .agg #[.int .i64 p1_b.Doc, .int .i64 p1_b.Points]] w fun e w' => ∃ K', e = .returned (.int .i64 r) ∧ SH w K [] w' K' [] ∧ rng64 r := by
 rw [M.impl_hitOrder] at hm
 refine ci func145 rfl ntmps145 (sr (bx rfl hS fun o w6 D => ?_))
 have G : SH _ _ _ _ _ [obj o [.int .i64 p0_a.Doc, .int .i64 p0_a.Points] 86] := D
 refine bx rfl G fun q ac H => ?_
 have I : SH _ _ _ _ _ [obj q [.int .i64 p1_b.Doc, .int .i64 p1_b.Points] 86, _] := H
 refine lv (rv_assign (v := .int .i64 0) rfl) (ns ?_)
 have a := I.drew
 refine wj0 (fun w' => Holds K w' ∧ HasObj q [.int .i64 p1_b.Doc, .int .i64 p1_b.Points] w' ∧ HasObj o [.int .i64 p0_a.Doc, .int .i64 p0_a.Points] w') (fun w' => True) 13 [] mixed ⟨a.hasK kr, a.hasObj m0, a.hasObj m1⟩ (fun _ => trivial) (jv 0 rfl (rv_fieldAddr ff86_1 rfl) (jh 1 rfl (fun _ h => rh_loadm1 tf3 rfl rfl h.2.1) (jv 2 rfl (rv_fieldAddr ff86_1 rfl) (jh 3 rfl (fun _ h => rh_loadm1 tf3 rfl rfl h.2.2) (jv 5 rfl (rv_fieldAddr ff86_0 rfl) (jh 6 rfl (fun _ h => rh_loadm1 tf3 rfl rfl h.2.2) (jv 7 rfl (rv_fieldAddr ff86_0 rfl) (jh 8 rfl (fun _ h => rh_loadm1 tf3 rfl rfl h.2.1) (j1 4 rfl ?_)))))))))
 obtain ⟨b, J, O⟩ := ob hm
 refine lk co114 ((ok_cmp_Compare_int F) a.enter0 C A J) ?_
 rintro ad ae ⟨af, rfl, c, R⟩
 have d := (a.c0 c).t2
 refine jn ⟨d.hasK c.le, d.hasObj m0, d.hasObj m1⟩ (fun _ => trivial) (j1 9 rfl ?_)
 obtain ⟨f, S, T⟩ := ob O
 refine lk co114 ((ok_cmp_Compare_int F) d.enter0 y B S) ?_
 rintro ag ah ⟨ai, rfl, k, U⟩
 have l := (d.c0 k).t2
 refine jn ⟨l.hasK (c.le.trans k.le), l.hasObj m0, l.hasObj m1⟩ (fun _ => trivial) (j1 10 rfl (wl_buildSlice (t := tInt) (n := 2) (pv := [(0, .int .i64 b), (1, .int .i64 f)]) (cs := [.int .i64 b, .int .i64 f]) (xs := [b, f]) wn rfl underlying55 tf3 rfl rfl rfl (by kernel_rfl) rfl rfl (lit_cons (u := .int .i64 b) (z := b) ⟨rfl, R⟩ (lit_cons (u := .int .i64 f) (z := f) ⟨rfl, U⟩ lit_nil)) l fun aj ak al s V i => (jn ⟨i.hasK ((c.le.trans k.le).trans s), i.hasObj m1, i.hasObj m2⟩ (fun _ => trivial) (j1 11 rfl ?_))))
 obtain ⟨am, W, X⟩ := ob T
 refine lk co119 ((ok_cmp_Or_int F) i.enter0 V W) ?_
 rintro an ao ⟨Y, rfl, x, aa⟩
 have m := (i.c0 x).t3
 refine jn ⟨m.hasK (((c.le.trans k.le).trans s).trans x.le), m.hasObj m1, m.hasObj m2⟩ (fun _ => trivial) (jv 12 rfl (rv_assign rfl) (jd (qe_seq (wc_ret ?_))))
 cases oi X
 exact ey results145 ⟨Y, rfl, m.s, aa⟩

theorem ok_impl_firstHits {p0_list : List GHit} {p1_most : Int} {r : (List GHit)} (hS : SH w K [] w K []) (f : SliceAt tGHit K A a b p0_list) (al : rng64 p1_most) (hm : M.impl_firstHits F p0_list p1_most = some r) :
  Calls prog 91 #[.slice A a b, .int .i64 p1_most] w fun e w' => ∃ a_1 n_2 c_3 K', e = .returned (.slice a_1 n_2 c_3) ∧ SH w K [] w' K' [tail (.slice a_1 n_2 c_3) 86 2] ∧ SliceAt tGHit K' a_1 n_2 c_3 r := by
 rw [M.impl_firstHits] at hm
 refine ci func91 rfl ntmps91 (sr (lv (rv_assign (v := .slice none 0 0) rfl) (nr (b0 tGHit underlying38 tf86 hS fun a6 w7 K8 i k l => (mv rfl ?_)))))
 obtain ⟨ap, m, o⟩ := ob hm
 refine lp underlying38 tf86 k (f.mono i) m l fun q s B aq ar au C D => (av rfl (nr (mv rfl ?_)))
 obtain ⟨aw, G, H⟩ := ob o
 refine wl_call wn rfl (rt_call (vs := [.slice q s B, .func (.func 145) #[] #[]]) co144 rfl) (sort_call (T := tGHit) sortLay144 sortNone144 rfl (fun w => Go.Fk.run_isAgg tf86 w) (fun w => Go.Fk.run_sizeOf tf86 w) (fun a b => M.impl_hitOrder F a b) 145 (Go.Proofs.enters_of func145 (by kernel_rfl) rfl) D hS.holds (fun b hb => by cases hb) C (fun _ _ _ _ _ h => h) (fun K1 W v x u y r hW I J hm => by
  obtain ⟨rfl, O, R⟩ := I
  obtain ⟨rfl, S, U⟩ := J
  exact (ok_impl_hitOrder (dr := ⟨True⟩) F (SH.start (dr := ⟨True⟩) hW) O R S U hm).mono fun e w' ⟨K', he, hS', _⟩ => ⟨K', he, hS'⟩) G) ?_
 rintro ay az ⟨aA, rfl, V, c⟩
 refine ⟨_, rfl, ?_⟩
 refine nr (b0 tGHit underlying38 tf86 V fun aB aC aD d X Y => (mv rfl (mv rfl (lv (rv_len (t := tGHit) underlying38 rfl (c.mono d)) (mv rfl (lv (rv_min2 rfl rfl) ?_))))))
 obtain ⟨aE, aa, ab⟩ := ob H
 refine wl_sl_h (t := tGHit) wn rfl underlying38 tf86 rfl rfl (c.mono d) aa fun aF aG aH ac => ?_
 obtain ⟨aI, ad, ae⟩ := ob ab
 refine lp underlying38 tf86 X ac ad Y fun af ag ah aJ ai aK aj ak => (av rfl (nq (wc_ret ?_)))
 cases oi ae
 exact ey results91 ⟨af, ag, ah, ai, rfl, ak.s, aj⟩

set_option maxHeartbeats 2000000 in
theorem ok_impl_GlobOk {p0_p : Str} {r : Bool} (hS : SH w K [] w K []) (A : p0_p.length ≤ maxLen) (hm : M.impl_GlobOk F p0_p = some r) :
  Calls prog 156 #[sv p0_p] w fun e w' => ∃ K', e = .returned (.bool r) ∧ SH w K [] w' K' [] := by
 rw [M.impl_GlobOk] at hm
 refine ci func156 rfl ntmps156 (sr (lv (rv_assign (v := .bool false) rfl) (nsr (mv rfl (lv (rv_slen underlying9 rfl) (lv (rv_move (v := .int .i64 0) rfl) (nq ?_)))))))
 obtain ⟨I, J, d⟩ := ob hm
 refine wc_cutg (IE I w K [] K [(0, sv p0_p)] []) ?_ ?_
 ·refine wc_block ?_
  obtain ⟨ao, O, B⟩ := ob J
  refine qf (fun (k : Nat) (C : Unit) => IV w K [] K [(0, sv p0_p), (5, .int .i64 (p0_p.length : Int)), (6, .int .i64 ((k : Nat) : Int))] []) O ⟨K, rfl, hS, kr⟩ ?_ ?_
  ·rintro k C _ R ap hi20 S T ⟨l, rfl, f, m⟩
   refine sr (lv (rv_lss rfl rfl) (ns (wc_cond_t rfl (decide_eq_true (by omega)) (wc_skip (qe_seq (wc_seq (wc_block (sr (mv rfl (av rfl (ns ?_)))))))))))
   obtain ⟨U, V, W⟩ := ob S
   refine wc_cutg (IV w K [] l [(0, sv p0_p), (5, .int .i64 (p0_p.length : Int)), (6, .int .i64 ((k : Nat) : Int)), (25, .bool U)] []) ?_ ?_
   ·refine wc_region (mv rfl (mv rfl ?_))
    obtain ⟨aq, X, Y⟩ := ob V
    refine lv (rv_sidx underlying9 rfl rfl X) ?_
    obtain ⟨ar, aa, ab⟩ := ob Y
    refine lk co106 ((ok_impl_wordByte F) f.enter0  aa) ?_
    rintro au aw ⟨o, rfl, i⟩
    have q := (f.c0 i).t0
    refine lv (rv_not rfl) (mv rfl (bt ab (fun a s => ?_) (fun a s => ?_)))
    ·refine lg a (rv_move rfl) (lg a (rv_move rfl) ?_)
     obtain ⟨ax, ac, ad⟩ := ob s
     refine lg a (rv_sidx underlying9 rfl rfl ac) (lg a (rv_bne (b := (42 : UInt8)) rfl rfl) (lv (rv_pick_t rfl a rfl) (mv rfl (bt ad (fun c x => ?_) (fun c x => ?_)))))
     ·refine lg c (rv_move rfl) (lg c (rv_move rfl) ?_)
      obtain ⟨ay, ae, af⟩ := ob x
      refine lg c (rv_sidx underlying9 rfl rfl ae) (lg c (rv_bne (b := (63 : UInt8)) rfl rfl) (lv (rv_pick_t rfl c rfl) (wl_nil ?_)))
      cases oi af
      exact qd ⟨o, rfl, q, i.le⟩
     refine lu c (lu c (lu c (lu c (lv (rv_pick_f (v := .bool false) rfl c rfl) (wl_nil ?_)))))
     cases oi x
     exact qd ⟨o, rfl, q, i.le⟩
    refine lu a (lu a (lu a (lu a (lv (rv_pick_f (v := .bool false) rfl a rfl) (mv rfl (lu rfl (lu rfl (lu rfl (lu rfl ?_)))))))))
    refine lv (rv_pick_f (v := .bool false) rfl rfl rfl) (wl_nil ?_)
    cases oi s
    exact qd ⟨o, rfl, q, i.le⟩
   rintro _ az ⟨D, rfl, G, ag⟩
   refine qe_seq (wcc W rfl (fun ah y => ?_) (fun ah y => ?_))
   ·refine sr (lv (rv_assign (v := .bool false) rfl) (nq (wc_ret (qe_block_ret (qe_then_ret (qe_then_ret ?_))))))
    cases oi y
    cases T _ rfl
    refine qe_block_ret (qe_then_ret ?_)
    cases oi B
    refine qe_then_ret ?_
    cases oi d
    exact ey results156 ⟨D, rfl, G⟩
   refine wc_skip (qe_block (qg (lv (rv_add_to rfl rfl (w64_succ hi20 A)) (mv rfl (wl_nil ?_)))))
   cases oi y
   exact qd ⟨_, rfl, D, rfl, G, (m.trans ag)⟩
  rintro C _ R ai ⟨l, rfl, f, m⟩
  subst ai
  refine sr (lv (rv_lss rfl rfl) (ns (wc_cond_f rfl (decide_eq_false (by omega)) (wc_exit (qe_then_exit (qe_then_exit (qe_block_eq ?_)))))))
  cases oi B
  exact qd ⟨_, l, rfl, rfl, f, m⟩
 rintro _ w8 ⟨s5, K6, rfl, rfl, H, aD⟩
 have d := elim_l d
 refine qr (mv rfl (lv (rv_slen underlying9 rfl) ?_))
 obtain ⟨aE, aj, ak⟩ := ob d
 refine lk co58 ((ok_impl_within F) H.enter0 (rng_nat A) (by decide : rng64 1) (by decide : rng64 12) aj) ?_
 rintro aF aG ⟨al, rfl, am⟩
 have an := (H.c0 am).t0
 refine av rfl (nq (wc_ret ?_))
 cases oi ak
 exact ey results156 ⟨al, rfl, an⟩

set_option maxHeartbeats 2000000 in
theorem ok_impl_nodeOk (F : Nat) : ∀ {w : World} {K : KMap} {l : Option Addr} {o q : Nat} {x : Option Addr} {y A : Nat} {gb14 : Nat} {p0_q : GQuery} {p1_deep : Int} {r : Bool} (hS : SH w K [] w K []) (bz : rng64 p0_q.Kind) (bb : p0_q.Field.length ≤ maxLen) (W : SliceAt tStr K l o q p0_q.Words) (aH : rng64 p0_q.From) (bc : rng64 p0_q.To) (X : SliceAt tkGQuery K x y A p0_q.Kids) (bA : rng64 p1_deep) (hG15 : GMap cellsGShape 1 gb14 M.glob1 w) (hm : M.impl_nodeOk F p0_q p1_deep = some r),
  Calls prog 100 #[.agg #[.int .i64 p0_q.Kind, sv p0_q.Field, .slice l o q, .int .i64 p0_q.From, .int .i64 p0_q.To, .slice x y A], .int .i64 p1_deep] w fun e w' => ∃ K', e = .returned (.bool r) ∧ SH w K [] w' K' [] := by
 induction F with
 | zero => intros; rename_i hm; rw [M.impl_nodeOk] at hm; cases hm
 | succ F ih =>
  intro w K l o q x y A gb14 p0_q p1_deep r hS bz bb W aH bc X bA hG15 hm
  rw [M.impl_nodeOk] at hm
  refine ci func100 rfl ntmps100 (sr (bx rfl hS fun f c9 bB => ?_))
  have ar : SH _ _ _ _ _ [obj f [.int .i64 p0_q.Kind, sv p0_q.Field, .slice l o q, .int .i64 p0_q.From, .int .i64 p0_q.To, .slice x y A] 42] := bB
  refine lv (rv_assign (v := .bool false) rfl) (nr (lv (rv_loadG tf193 rfl (hG15.keep ar)) (fa ff42_0 rfl (lv (rv_loadm1 tf3 rfl m0 ar rfl) (lv (show RV _ _ _ _ (.tuple #[.agg #[.bool ((M.glob1at p0_q.Kind).field_), .int .i64 ((M.glob1at p0_q.Kind).leastWords_), .int .i64 ((M.glob1at p0_q.Kind).mostWords_), .int .i64 ((M.glob1at p0_q.Kind).low_), .int .i64 ((M.glob1at p0_q.Kind).high_), .bool ((M.glob1at p0_q.Kind).ranged_), .int .i64 ((M.glob1at p0_q.Kind).leastKids_), .int .i64 ((M.glob1at p0_q.Kind).mostKids_)], .bool (M.glob1has p0_q.Kind)]) from rv_lookG (cells := cellsGShape) (m := M.glob1) underlying193 underlying3 tf191 rfl rfl (hG15.keep ar) gap1) (mv rfl (lv (rv_extract rfl rfl) (lv (rv_extract rfl rfl) (al tf191 ar fun af da bC => ?_)))))))))
  have bD : SH _ _ _ _ _ [obj af [.bool false, .int .i64 0, .int .i64 0, .int .i64 0, .int .i64 0, .bool false, .int .i64 0, .int .i64 0] 191, _] := bC
  refine ls [.bool ((M.glob1at p0_q.Kind).field_), .int .i64 ((M.glob1at p0_q.Kind).leastWords_), .int .i64 ((M.glob1at p0_q.Kind).mostWords_), .int .i64 ((M.glob1at p0_q.Kind).low_), .int .i64 ((M.glob1at p0_q.Kind).high_), .bool ((M.glob1at p0_q.Kind).ranged_), .int .i64 ((M.glob1at p0_q.Kind).leastKids_), .int .i64 ((M.glob1at p0_q.Kind).mostKids_)] (.agg #[.bool ((M.glob1at p0_q.Kind).field_), .int .i64 ((M.glob1at p0_q.Kind).leastWords_), .int .i64 ((M.glob1at p0_q.Kind).mostWords_), .int .i64 ((M.glob1at p0_q.Kind).low_), .int .i64 ((M.glob1at p0_q.Kind).high_), .bool ((M.glob1at p0_q.Kind).ranged_), .int .i64 ((M.glob1at p0_q.Kind).leastKids_), .int .i64 ((M.glob1at p0_q.Kind).mostKids_)]) tf191 bD fun db C => (av rfl (ns (wc_seq ?_)))
  obtain ⟨bE, bF, bG⟩ := ob hm
  refine wc_cutg (IV w K [] K [(1, .int .i64 p1_deep), (2, pt f), (5, pt af), (41, .bool bE)] [obj f [.int .i64 p0_q.Kind, sv p0_q.Field, .slice l o q, .int .i64 p0_q.From, .int .i64 p0_q.To, .slice x y A] 42, obj af [.bool ((M.glob1at p0_q.Kind).field_), .int .i64 ((M.glob1at p0_q.Kind).leastWords_), .int .i64 ((M.glob1at p0_q.Kind).mostWords_), .int .i64 ((M.glob1at p0_q.Kind).low_), .int .i64 ((M.glob1at p0_q.Kind).high_), .bool ((M.glob1at p0_q.Kind).ranged_), .int .i64 ((M.glob1at p0_q.Kind).leastKids_), .int .i64 ((M.glob1at p0_q.Kind).mostKids_)] 191]) ?_ ?_
  ·refine wc_region (mv rfl (lv (rv_not rfl) (mv rfl (bt bF (fun U aI => ?_) (fun U aI => ?_)))))
   ·refine lu U (lu U (lv (rv_pick_t (v := .bool true) rfl U rfl) (mv rfl ?_)))
    iterate 6 refine lu rfl ?_
    refine lv (rv_pick_t (v := .bool true) rfl rfl rfl) (mv rfl (lu rfl (lu rfl (lu rfl (wl_un (uu rfl rfl) rfl (wl_un (uu rfl rfl) rfl (wl_un (uu rfl rfl) rfl (wl_un (uu rfl rfl) rfl (lu rfl ?_)))))))))
    refine lv (rv_pick_t (v := .bool true) rfl rfl rfl) (wl_nil ?_)
    cases oi aI
    exact qd ⟨K, rfl, C.f1, kr⟩
   refine lg U (rv_move rfl) (lg U (rv_lss rfl rfl) (lv (rv_pick_f rfl U rfl) (mv rfl (bt aI (fun D aJ => ?_) (fun D aJ => ?_)))))
   ·iterate 6 refine lu D ?_
    refine lv (rv_pick_t (v := .bool true) rfl D rfl) (mv rfl (lu rfl (lu rfl (lu rfl (wl_un (uu rfl rfl) rfl (wl_un (uu rfl rfl) rfl (wl_un (uu rfl rfl) rfl (wl_un (uu rfl rfl) rfl (lu rfl ?_)))))))))
    refine lv (rv_pick_t (v := .bool true) rfl rfl rfl) (wl_nil ?_)
    cases oi aJ
    exact qd ⟨K, rfl, C.f1, kr⟩
   refine lg D (rv_fieldAddr ff191_0 rfl) (lg D (rv_loadm1 tf4 rfl m0 C rfl) (lg D (rv_fieldAddr ff42_1 rfl) (lg D (rv_loadm1 tf9 rfl m1 C rfl) (lg D (rv_sneq (r := ([] : Str)) rfl rfl) (lg D (rv_boolne underlying4 rfl rfl) (lv (rv_pick_f rfl D rfl) (mv rfl (bt aJ (fun i aK => ?_) (fun i aK => ?_)))))))))
   ·refine lu i (lu i (lu i (wl_un (uu rfl rfl) rfl (wl_un (uu rfl rfl) rfl (wl_un (uu rfl rfl) rfl (wl_un (uu rfl rfl) rfl (lu i (lv (rv_pick_t (v := .bool true) rfl i rfl) (wl_nil ?_)))))))))
    cases oi aK
    exact qd ⟨K, rfl, C.f1, kr⟩
   refine lg i (rv_fieldAddr ff191_0 rfl) (lg i (rv_loadm1 tf4 rfl m0 C rfl) (lg i (rv_move rfl) (bt aK (fun B aL => ?_) (fun B aL => ?_))))
   ·refine lg B (rv_fieldAddr ff42_1 rfl) (lg B (rv_loadm1 tf9 rfl m1 C rfl) ?_)
    obtain ⟨dc, bH, bI⟩ := ob aL
    refine wl_call (wg rfl rfl B) rfl (rt_call (vs := [sv p0_q.Field]) co59 rfl) ((ok_impl_WordOk F) C.enter0 bb bH) ?_
    rintro dd de ⟨bJ, rfl, bd⟩
    refine ⟨_, rfl, ?_⟩
    have bK := (C.c0 bd).t2
    refine lg B (rv_not rfl) (lg i (rv_pick_t rfl B rfl) (lv (rv_pick_f rfl i rfl) (wl_nil ?_)))
    cases oi bI
    exact qd ⟨bJ, rfl, bK.f1, bd.le⟩
   refine lu B (lu B (lu B (lu B (lg i (rv_pick_f (v := .bool false) rfl B rfl) (lv (rv_pick_f rfl i rfl) (wl_nil ?_))))))
   cases oi aL
   exact qd ⟨K, rfl, C.f1, kr⟩
  rintro _ df ⟨be, rfl, Y, G⟩
  refine qe_seq (wcc bG rfl (fun bL aM => ?_) (fun bL aM => ?_))
  ·refine sr (lv (rv_assign (v := .bool false) rfl) (nq (rr ?_)))
   cases oi aM
   exact ey results100 ⟨be, rfl, Y.s⟩
  refine wc_skip (qs (wc_seq ?_))
  obtain ⟨bM, bN, bO⟩ := ob aM
  refine wc_cutg (IV w K [] be [(1, .int .i64 p1_deep), (2, pt f), (5, pt af), (71, .bool bM)] [obj f [.int .i64 p0_q.Kind, sv p0_q.Field, .slice l o q, .int .i64 p0_q.From, .int .i64 p0_q.To, .slice x y A] 42, obj af [.bool ((M.glob1at p0_q.Kind).field_), .int .i64 ((M.glob1at p0_q.Kind).leastWords_), .int .i64 ((M.glob1at p0_q.Kind).mostWords_), .int .i64 ((M.glob1at p0_q.Kind).low_), .int .i64 ((M.glob1at p0_q.Kind).high_), .bool ((M.glob1at p0_q.Kind).ranged_), .int .i64 ((M.glob1at p0_q.Kind).leastKids_), .int .i64 ((M.glob1at p0_q.Kind).mostKids_)] 191]) ?_ ?_
  ·refine wc_region (fa ff42_2 rfl (lv (rv_loadm1 tf23 rfl m0 Y rfl) (lv (rv_len (t := tStr) underlying23 rfl (W.mono G)) (fa ff191_1 rfl (lv (rv_loadm1 tf3 rfl m1 Y rfl) (fa ff191_2 rfl (lv (rv_loadm1 tf3 rfl m1 Y rfl) ?_)))))))
   obtain ⟨dg, bP, bQ⟩ := ob bN
   refine lk co58 ((ok_impl_within F) Y.enter0 (W.mono G).rn (gok1_1 _) (gok1_2 _) bP) ?_
   rintro dh di ⟨bR, rfl, aa⟩
   have ab := (Y.c0 aa).t2
   refine lv (rv_not rfl) (mv rfl (bt bQ (fun k aN => ?_) (fun k aN => ?_)))
   ·iterate 9 refine lu k ?_
    refine lv (rv_pick_t (v := .bool true) rfl k rfl) (mv rfl ?_)
    iterate 8 refine lu rfl ?_
    refine lv (rv_pick_t (v := .bool true) rfl rfl rfl) (wl_nil ?_)
    cases oi aN
    exact qd ⟨bR, rfl, ab, aa.le⟩
   refine lg k (rv_fieldAddr ff42_5 rfl) (lg k (rv_loadm1 tf40 rfl m0 ab rfl) (lg k (rv_len (t := tkGQuery) underlying40 rfl (X.mono (G.trans aa.le))) (lg k (rv_fieldAddr ff191_6 rfl) (lg k (rv_loadm1 tf3 rfl m1 ab rfl) (lg k (rv_fieldAddr ff191_7 rfl) (lg k (rv_loadm1 tf3 rfl m1 ab rfl) ?_))))))
   obtain ⟨dj, bS, bT⟩ := ob aN
   refine wl_call (wg rfl rfl k) rfl (rt_call (vs := [.int .i64 (p0_q.Kids.length : Int), .int .i64 ((M.glob1at p0_q.Kind).leastKids_), .int .i64 ((M.glob1at p0_q.Kind).mostKids_)]) co58 rfl) ((ok_impl_within F) ab.enter0 (X.mono (G.trans aa.le)).rn (gok1_6 _) (gok1_7 _) bS) ?_
   rintro dk dl ⟨bU, rfl, aO⟩
   refine ⟨_, rfl, ?_⟩
   have ac := (ab.c0 aO).t2
   refine lg k (rv_not rfl) (lv (rv_pick_f rfl k rfl) (mv rfl (bt bT (fun s aP => ?_) (fun s aP => ?_))))
   ·iterate 8 refine lu s ?_
    refine lv (rv_pick_t (v := .bool true) rfl s rfl) (wl_nil ?_)
    cases oi aP
    exact qd ⟨bU, rfl, ac, (aa.le.trans aO.le)⟩
   refine lg s (rv_fieldAddr ff42_3 rfl) (lg s (rv_loadm1 tf3 rfl m0 ac rfl) (lg s (rv_fieldAddr ff191_3 rfl) (lg s (rv_loadm1 tf3 rfl m1 ac rfl) (lg s (rv_fieldAddr ff191_4 rfl) (lg s (rv_loadm1 tf3 rfl m1 ac rfl) ?_)))))
   obtain ⟨dm, bV, bW⟩ := ob aP
   refine wl_call (wg rfl rfl s) rfl (rt_call (vs := [.int .i64 p0_q.From, .int .i64 ((M.glob1at p0_q.Kind).low_), .int .i64 ((M.glob1at p0_q.Kind).high_)]) co58 rfl) ((ok_impl_within F) ac.enter0 aH (gok1_3 _) (gok1_4 _) bV) ?_
   rintro dn dp ⟨bX, rfl, bf⟩
   refine ⟨_, rfl, ?_⟩
   have bY := (ac.c0 bf).t2
   refine lg s (rv_not rfl) (lv (rv_pick_f rfl s rfl) (wl_nil ?_))
   cases oi bW
   exact qd ⟨bX, rfl, bY, ((aa.le.trans aO.le).trans bf.le)⟩
  rintro _ dq ⟨au, rfl, H, ad⟩
  refine qe_seq (wcc bO rfl (fun bZ aQ => ?_) (fun bZ aQ => ?_))
  ·refine sr (lv (rv_assign (v := .bool false) rfl) (nq (rr ?_)))
   cases oi aQ
   exact ey results100 ⟨au, rfl, H.s⟩
  refine wc_skip (qs (wc_seq ?_))
  obtain ⟨b0, b1, b2⟩ := ob aQ
  refine wc_cutg (IV w K [] au [(1, .int .i64 p1_deep), (2, pt f), (91, .bool b0)] [obj f [.int .i64 p0_q.Kind, sv p0_q.Field, .slice l o q, .int .i64 p0_q.From, .int .i64 p0_q.To, .slice x y A] 42]) ?_ ?_
  ·refine wc_region (fa ff191_5 rfl (lv (rv_loadm1 tf4 rfl m1 H rfl) (mv rfl (bt b1 (fun I aR => ?_) (fun I aR => ?_)))))
   ·refine lg I (rv_fieldAddr ff42_4 rfl) (lg I (rv_loadm1 tf3 rfl m0 H rfl) (lg I (rv_fieldAddr ff42_3 rfl) (lg I (rv_loadm1 tf3 rfl m0 H rfl) ?_)))
    obtain ⟨dr, b3, b4⟩ := ob aR
    refine wl_call (wg rfl rfl I) rfl (rt_call (vs := [.int .i64 p0_q.To, .int .i64 p0_q.From, .int .i64 999999999]) co58 rfl) ((ok_impl_within F) H.enter0 bc aH (by decide : rng64 999999999) b3) ?_
    rintro dt du ⟨aS, rfl, aw⟩
    refine ⟨_, rfl, ?_⟩
    have ag := (H.c0 aw).t2
    refine lg I (rv_not rfl) (lv (rv_pick_t rfl I rfl) (mv rfl (bt b4 (fun b aT => ?_) (fun b aT => ?_))))
    ·refine lu b (lu b (lu b (lu b (wl_un (uu rfl rfl) rfl (wl_un (uu rfl rfl) rfl (wl_un (uu rfl rfl) rfl (lu b (lv (rv_pick_t (v := .bool true) rfl b rfl) (wl_nil ?_)))))))))
     cases oi aT
     exact qd ⟨aS, rfl, ag.s, aw.le⟩
    refine lg b (rv_fieldAddr ff191_5 rfl) (lg b (rv_loadm1 tf4 rfl m1 ag rfl) (lg b (rv_not rfl) (lg b (rv_move rfl) (bt aT (fun O aU => ?_) (fun O aU => ?_)))))
    ·refine lg O (rv_fieldAddr ff42_4 rfl) (lg O (rv_loadm1 tf3 rfl m0 ag rfl) (lg O (rv_neq rfl rfl) (lg b (rv_pick_t rfl O rfl) (lv (rv_pick_f rfl b rfl) (wl_nil ?_)))))
     cases oi aU
     exact qd ⟨aS, rfl, ag.s, aw.le⟩
    refine lu O (lu O (lu O (lg b (rv_pick_f (v := .bool false) rfl O rfl) (lv (rv_pick_f rfl b rfl) (wl_nil ?_)))))
    cases oi aU
    exact qd ⟨aS, rfl, ag.s, aw.le⟩
   iterate 6 refine lu I ?_
   refine lv (rv_pick_f (v := .bool false) rfl I rfl) (mv rfl (lg rfl (rv_fieldAddr ff191_5 rfl) (lg rfl (rv_loadm1 tf4 rfl m1 H rfl) (lg rfl (rv_not rfl) (lg rfl (rv_move rfl) (bt aR (fun R aV => ?_) (fun R aV => ?_)))))))
   ·refine lg R (rv_fieldAddr ff42_4 rfl) (lg R (rv_loadm1 tf3 rfl m0 H rfl) (lg R (rv_neq rfl rfl) (lg rfl (rv_pick_t rfl R rfl) (lv (rv_pick_f rfl rfl rfl) (wl_nil ?_)))))
    cases oi aV
    exact qd ⟨au, rfl, H.s, kr⟩
   refine lu R (lu R (lu R (lg rfl (rv_pick_f (v := .bool false) rfl R rfl) (lv (rv_pick_f rfl rfl rfl) (wl_nil ?_)))))
   cases oi aV
   exact qd ⟨au, rfl, H.s, kr⟩
  rintro _ dv ⟨ax, rfl, aW, ae⟩
  refine qe_seq (wcc b2 rfl (fun b5 aX => ?_) (fun b5 aX => ?_))
  ·refine sr (lv (rv_assign (v := .bool false) rfl) (nq (rr ?_)))
   cases oi aX
   exact ey results100 ⟨ax, rfl, aW.s⟩
  refine wc_skip (qs (sr (fa ff42_2 rfl (lv (rv_loadm1 tf23 rfl m0 aW rfl) (lv (rv_len (t := tStr) underlying23 rfl (W.mono ((G.trans ad).trans ae))) (lv (rv_move (v := .int .i64 0) rfl) (nq ?_)))))))
  obtain ⟨b6, b7, ay⟩ := ob aX
  refine wc_cutg (IE b6 w K [] ax [(1, .int .i64 p1_deep), (2, pt f)] [obj f [.int .i64 p0_q.Kind, sv p0_q.Field, .slice l o q, .int .i64 p0_q.From, .int .i64 p0_q.To, .slice x y A] 42]) ?_ ?_
  ·refine wc_block ?_
   obtain ⟨dw, b8, bg⟩ := ob b7
   refine qf (fun (aY : Nat) (bh : Unit) => IV w K [] ax [(1, .int .i64 p1_deep), (2, pt f), (93, .slice l o q), (94, .int .i64 (p0_q.Words.length : Int)), (95, .int .i64 ((aY : Nat) : Int))] [obj f [.int .i64 p0_q.Kind, sv p0_q.Field, .slice l o q, .int .i64 p0_q.From, .int .i64 p0_q.To, .slice x y A] 42]) b8 ⟨ax, rfl, aW, kr⟩ ?_ ?_
   ·rintro aY bh _ b9 dx hi150 ca cb ⟨az, rfl, J, aA⟩
    refine sr (lv (rv_lss rfl rfl) (ns (wc_cond_t rfl (decide_eq_true (by omega)) (wc_skip (qe_seq (wc_seq (wc_block (sr ?_))))))))
    obtain ⟨ah, cc, cd⟩ := ob ca
    refine li underlying23 tf9 (SliceAt.mono (((G.trans ad).trans ae).trans aA) W) cc fun ce cf dy cg ch => ?_
    obtain ⟨rfl, aB⟩ := cg
    have cj : AtK _ ce cf [sv ah] := ch
    refine lv (rv_load1 tf9 rfl J (cj 0 _ rfl)) (av rfl (ns ?_))
    obtain ⟨ck, cl, cm⟩ := ob cd
    refine wc_cutg (IV w K [] az [(1, .int .i64 p1_deep), (2, pt f), (93, .slice l o q), (94, .int .i64 (p0_q.Words.length : Int)), (95, .int .i64 ((aY : Nat) : Int)), (120, .bool ck)] [obj f [.int .i64 p0_q.Kind, sv p0_q.Field, .slice l o q, .int .i64 p0_q.From, .int .i64 p0_q.To, .slice x y A] 42]) ?_ ?_
    ·refine wc_region (fa ff42_0 rfl (lv (rv_loadm1 tf3 rfl m0 J rfl) (lv (rv_eql rfl rfl) (mv rfl (bt cl (fun c aZ => ?_) (fun c aZ => ?_))))))
     ·refine lg c (rv_move rfl) ?_
      obtain ⟨dz, cn, cp⟩ := ob aZ
      refine wl_call (wg rfl rfl c) rfl (rt_call (vs := [sv ah]) co156 rfl) ((ok_impl_GlobOk F) J.enter0 aB cn) ?_
      rintro dA dB ⟨cq, rfl, ai⟩
      refine ⟨_, rfl, ?_⟩
      have a0 := (J.c0 ai).t1
      refine lg c (rv_not rfl) (lg c (rv_move rfl) (bt cp (fun V a1 => ?_) (fun V a1 => ?_)))
      ·refine lu V (lu V (lg c (rv_pick_t (v := .bool true) rfl V rfl) (lv (rv_pick_t rfl c rfl) (mv rfl (lu rfl (lu rfl (lu rfl (lu rfl (wl_un (uu rfl rfl) rfl ?_)))))))))
       refine wl_un (uu rfl rfl) rfl (wl_un (uu rfl rfl) rfl (lu rfl (lv (rv_pick_t (v := .bool true) rfl rfl rfl) (wl_nil ?_))))
       cases oi a1
       exact qd ⟨cq, rfl, a0, ai.le⟩
      refine lg V (rv_move rfl) ?_
      obtain ⟨dC, cr, ct⟩ := ob a1
      refine wl_call (wg rfl rfl V) rfl (rt_call (vs := [sv ah]) co59 rfl) ((ok_impl_WordOk F) a0.enter0 aB cr) ?_
      rintro dD dE ⟨bi, rfl, aC⟩
      refine ⟨_, rfl, ?_⟩
      have aj := (a0.c0 aC).t1
      refine lg c (rv_pick_f rfl V rfl) (lv (rv_pick_t rfl c rfl) (mv rfl (bt ct (fun d a2 => ?_) (fun d a2 => ?_))))
      ·refine lu d (lu d (lu d (lu d (wl_un (uu rfl rfl) rfl (wl_un (uu rfl rfl) rfl (wl_un (uu rfl rfl) rfl (lu d (lv (rv_pick_t (v := .bool true) rfl d rfl) (wl_nil ?_)))))))))
       cases oi a2
       exact qd ⟨bi, rfl, aj, (ai.le.trans aC.le)⟩
      refine lg d (rv_fieldAddr ff42_0 rfl) (lg d (rv_loadm1 tf3 rfl m0 aj rfl) (lg d (rv_neq rfl rfl) (lg d (rv_move rfl) (bt a2 (fun S a4 => ?_) (fun S a4 => ?_)))))
      ·refine lg S (rv_move rfl) ?_
       obtain ⟨dF, cu, cv⟩ := ob a4
       refine wl_call (wg rfl rfl S) rfl (rt_call (vs := [sv ah]) co59 rfl) ((ok_impl_WordOk F) aj.enter0 aB cu) ?_
       rintro dG dH ⟨cw, rfl, bj⟩
       refine ⟨_, rfl, ?_⟩
       have cx := (aj.c0 bj).t1
       refine lg S (rv_not rfl) (lg d (rv_pick_t rfl S rfl) (lv (rv_pick_f rfl d rfl) (wl_nil ?_)))
       cases oi cv
       exact qd ⟨cw, rfl, cx, ((ai.le.trans aC.le).trans bj.le)⟩
      refine lu S (lu S (lu S (lg d (rv_pick_f (v := .bool false) rfl S rfl) (lv (rv_pick_f rfl d rfl) (wl_nil ?_)))))
      cases oi a4
      exact qd ⟨bi, rfl, aj, (ai.le.trans aC.le)⟩
     refine lu c (lu c (lu c (lu c (wl_un (uu rfl rfl) rfl (wl_un (uu rfl rfl) rfl (lu c (lv (rv_pick_f (v := .bool false) rfl c rfl) (mv rfl (lg rfl (rv_fieldAddr ff42_0 rfl) ?_)))))))))
     refine lg rfl (rv_loadm1 tf3 rfl m0 J rfl) (lg rfl (rv_neq rfl rfl) (lg rfl (rv_move rfl) (bt aZ (fun T a5 => ?_) (fun T a5 => ?_))))
     ·refine lg T (rv_move rfl) ?_
      obtain ⟨dI, cy, cz⟩ := ob a5
      refine wl_call (wg rfl rfl T) rfl (rt_call (vs := [sv ah]) co59 rfl) ((ok_impl_WordOk F) J.enter0 aB cy) ?_
      rintro dJ dK ⟨cA, rfl, bk⟩
      refine ⟨_, rfl, ?_⟩
      have cB := (J.c0 bk).t1
      refine lg T (rv_not rfl) (lg rfl (rv_pick_t rfl T rfl) (lv (rv_pick_f rfl rfl rfl) (wl_nil ?_)))
      cases oi cz
      exact qd ⟨cA, rfl, cB, bk.le⟩
     refine lu T (lu T (lu T (lg rfl (rv_pick_f (v := .bool false) rfl T rfl) (lv (rv_pick_f rfl rfl rfl) (wl_nil ?_)))))
     cases oi a5
     exact qd ⟨az, rfl, J, kr⟩
    rintro _ dL ⟨bl, rfl, bm, cC⟩
    refine qe_seq (wcc cm rfl (fun cD a6 => ?_) (fun cD a6 => ?_))
    ·refine sr (lv (rv_assign (v := .bool false) rfl) (nq (wc_ret (qe_block_ret (qe_then_ret (qe_then_ret ?_))))))
     cases oi a6
     cases cb _ rfl
     refine qe_block_ret (qe_then_ret ?_)
     cases oi bg
     refine qe_then_ret ?_
     cases oi ay
     exact ey results100 ⟨bl, rfl, bm.s⟩
    refine wc_skip (qe_block (qg (lv (rv_add_to rfl rfl (w64_succ hi150 (SliceAt.max (W.mono ((G.trans ad).trans ae))))) (mv rfl (wl_nil ?_)))))
    cases oi a6
    exact qd ⟨_, rfl, bl, rfl, bm, (aA.trans cC)⟩
   rintro bh _ b9 cE ⟨az, rfl, J, aA⟩
   subst cE
   refine sr (lv (rv_lss rfl rfl) (ns (wc_cond_f rfl (decide_eq_false (by omega)) (wc_exit (qe_then_exit (qe_then_exit (qe_block_eq ?_)))))))
   cases oi bg
   exact qd ⟨_, az, rfl, rfl, J, aA⟩
  rintro _ dM ⟨dN, a7, rfl, rfl, bn, a8⟩
  have ay := elim_l ay
  refine qs (sr (fa ff42_5 rfl (lv (rv_loadm1 tf40 rfl m0 bn rfl) (lv (rv_len (t := tkGQuery) underlying40 rfl (SliceAt.mono (((G.trans ad).trans ae).trans a8) X)) (lv (rv_move (v := .int .i64 0) rfl) (nq ?_))))))
  obtain ⟨cF, cG, aD⟩ := ob ay
  refine wc_cutg (IE cF w K [] a7 [] []) ?_ ?_
  ·refine wc_block ?_
   obtain ⟨dO, cH, bo⟩ := ob cG
   have cI := bn.sb (sd sz)
   refine qf (fun (bp : Nat) (bq : Unit) => IV w K [] a7 [(1, .int .i64 p1_deep), (123, .slice x y A), (124, .int .i64 (p0_q.Kids.length : Int)), (125, .int .i64 ((bp : Nat) : Int))] []) cH ⟨a7, rfl, cI, kr⟩ ?_ ?_
   ·rintro bp bq _ cJ dP hi237 cK cL ⟨br, rfl, aE, aF⟩
    refine sr (lv (rv_lss rfl rfl) (ns (wc_cond_t rfl (decide_eq_true (by omega)) (wc_skip (qe_seq (wc_seq (wc_block (sr ?_))))))))
    obtain ⟨a, cM, cN⟩ := ob cK
    refine li underlying40 tf42 (SliceAt.mono ((((G.trans ad).trans ae).trans a8).trans aF) X) cM fun cO cP dQ cQ cR => ?_
    obtain ⟨ak, am, an, ao, ap, aq, rfl, cS, cT, cU, cV, cW, cX⟩ := tkGQuery_open cQ
    have cY : AtK _ cO cP [.int .i64 a.Kind, sv a.Field, .slice ak am an, .int .i64 a.From, .int .i64 a.To, .slice ao ap aq] := cR
    refine lv (rv_loadS (cs := [.int .i64 a.Kind, sv a.Field, .slice ak am an, .int .i64 a.From, .int .i64 a.To, .slice ao ap aq]) tf42 rfl aE cY rfl) (al tf42 aE fun cZ dR c0 => ?_)
    have c1 : SH _ _ _ _ _ [obj cZ [.int .i64 0, sv [], .slice none 0 0, .int .i64 0, .int .i64 0, .slice none 0 0] 42] := c0
    refine ls [.int .i64 a.Kind, sv a.Field, .slice ak am an, .int .i64 a.From, .int .i64 a.To, .slice ao ap aq] (.agg #[.int .i64 a.Kind, sv a.Field, .slice ak am an, .int .i64 a.From, .int .i64 a.To, .slice ao ap aq]) tf42 c1 fun dS aG => (nr (lv (rv_loadmS (ds := [.int .i64 a.Kind, sv a.Field, .slice ak am an, .int .i64 a.From, .int .i64 a.To, .slice ao ap aq]) tf42 rfl m0 aG rfl rfl) (mv rfl (lv (rv_sub rfl rfl) ?_))))
    obtain ⟨dT, c2, c3⟩ := ob cN
    refine lk co100 (ih aG.enter0 cS cT cU cV cW cX (w64_rng _) (hG15.keep aG) c2) ?_
    rintro dU dV ⟨bs, rfl, bu⟩
    have bv := (aG.c0 bu).t1
    refine lv (rv_not rfl) (nq (wcc c3 rfl (fun c4 ba => ?_) (fun c4 ba => ?_)))
    ·refine sr (lv (rv_assign (v := .bool false) rfl) (nq (wc_ret (qe_block_ret (qe_then_ret (qe_then_ret ?_))))))
     cases oi ba
     cases cL _ rfl
     refine qe_block_ret (qe_then_ret ?_)
     cases oi bo
     refine qe_then_ret ?_
     cases oi aD
     exact ey results100 ⟨bs, rfl, bv.s⟩
    refine wc_skip (qe_block (qg (lv (rv_add_to rfl rfl (w64_succ hi237 (SliceAt.max (SliceAt.mono (((G.trans ad).trans ae).trans a8) X)))) (mv rfl (wl_nil ?_)))))
    cases oi ba
    exact qd ⟨_, rfl, bs, rfl, bv.s, (aF.trans bu.le)⟩
   rintro bq _ cJ c6 ⟨br, rfl, aE, aF⟩
   subst c6
   refine sr (lv (rv_lss rfl rfl) (ns (wc_cond_f rfl (decide_eq_false (by omega)) (wc_exit (qe_then_exit (qe_then_exit (qe_block_eq ?_)))))))
   cases oi bo
   exact qe_mid' ⟨_, br, rfl, rfl, aE, aF⟩ trivial
  rintro _ dW ⟨dX, c7, rfl, rfl, c8, dY⟩
  have aD := elim_l aD
  refine qr (lv (rv_assign (v := .bool true) rfl) (nq (wc_ret ?_)))
  cases oi aD
  exact ey results100 ⟨c7, rfl, c8⟩

theorem ok_impl_QueryOk {p0_q : GQuery} {r : Bool} (hS : SH w K [] w K []) (k : rng64 p0_q.Kind) (l : p0_q.Field.length ≤ maxLen) (m : SliceAt tStr K A a b p0_q.Words) (o : rng64 p0_q.From) (q : rng64 p0_q.To) (s : SliceAt tkGQuery K B c d p0_q.Kids) (hG14 : GMap cellsGShape 1 f M.glob1 w) (hm : M.impl_QueryOk F p0_q = some r) :
  Calls prog 43 #[.agg #[.int .i64 p0_q.Kind, sv p0_q.Field, .slice A a b, .int .i64 p0_q.From, .int .i64 p0_q.To, .slice B c d]] w fun e w' => ∃ K', e = .returned (.bool r) ∧ SH w K [] w' K' [] := by
 rw [M.impl_QueryOk] at hm
 refine ci func43 rfl ntmps43 (sr (bx rfl hS fun x J y => ?_))
 have i : SH _ _ _ _ _ [obj x [.int .i64 p0_q.Kind, sv p0_q.Field, .slice A a b, .int .i64 p0_q.From, .int .i64 p0_q.To, .slice B c d] 42] := y
 refine lv (rv_assign (v := .bool false) rfl) (nr (lv (rv_loadmS (ds := [.int .i64 p0_q.Kind, sv p0_q.Field, .slice A a b, .int .i64 p0_q.From, .int .i64 p0_q.To, .slice B c d]) tf42 rfl m0 i rfl rfl) ?_))
 obtain ⟨O, C, D⟩ := ob hm
 refine lk co100 ((ok_impl_nodeOk F) i.enter0 k l m o q s (by decide : rng64 4) (hG14.keep i) C) ?_
 rintro R S ⟨G, rfl, H⟩
 have I := (i.c0 H).t1
 refine av rfl (nq (wc_ret ?_))
 cases oi D
 exact ey results43 ⟨G, rfl, I.s⟩

theorem ok_impl_TermOf {p0_c : GConf} {p1_s : Str} {r : Str} (hS : SH w K [] w K []) (C : SliceAt tStr K A a b p0_c.Stops) (D : SliceAt tGSyn K B c d p0_c.Syns) (o : p1_s.length ≤ maxLen) (hm : M.impl_TermOf F p0_c p1_s = some r) :
  Calls prog 26 #[.agg #[.slice A a b, .slice B c d], sv p1_s] w fun e w' => ∃ K', e = .returned (sv r) ∧ SH w K [] w' K' [] ∧ r.length ≤ maxLen := by
 rw [M.impl_TermOf] at hm
 refine ci func26 rfl ntmps26 (sr (bx rfl hS fun G af H => ?_))
 have q : SH _ _ _ _ _ [obj G [.slice A a b, .slice B c d] 26] := H
 refine lv (rv_assign (v := sv []) rfl) (nsr (mv rfl ?_))
 obtain ⟨ag, I, J⟩ := ob hm
 refine lk co59 ((ok_impl_WordOk F) q.enter0 o I) ?_
 rintro ah ai ⟨O, rfl, i⟩
 have f := (q.c0 i).t1
 refine lv (rv_not rfl) (nq (wcc J rfl (fun R k => ?_) (fun R k => ?_)))
 ·refine sr (lv (rv_assign (v := sv []) rfl) (nq (rr ?_)))
  cases oi k
  exact ey results26 ⟨O, rfl, f.s, (by decide : ([] : Str).length ≤ maxLen)⟩
 refine wc_skip (qr (lv (rv_loadmS (ds := [.slice A a b, .slice B c d]) tf26 rfl m0 f rfl rfl) (mv rfl ?_)))
 obtain ⟨aj, S, T⟩ := ob k
 refine lk co73 ((ok_impl_TermsOf F) f.enter0 (C.mono i.le) (D.mono i.le) o S) ?_
 rintro ak al ⟨am, an, ao, s, rfl, U, x⟩
 have l := (f.c0 U).t2
 refine av rfl (nsr (mv rfl (lv (rv_len (t := tGTerm) underlying114 rfl x) (lv (rv_eql rfl rfl) (nq (wcc T rfl (fun V m => ?_) (fun V m => ?_)))))))
 ·refine sr (lv (rv_assign (v := sv []) rfl) (nq (rr ?_)))
  cases oi m
  exact ey results26 ⟨s, rfl, l.s, (by decide : ([] : Str).length ≤ maxLen)⟩
 refine wc_skip (qr (mv rfl ?_))
 obtain ⟨y, W, X⟩ := ob m
 refine li underlying114 tf117 x W fun Y aa ap ab ac => ?_
 obtain ⟨rfl, ad, aq⟩ := ab
 have ae : AtK _ Y aa [sv y.Text, .int .i64 y.At] := ac
 refine fa ff117_0 rfl (lv (rv_load1 tf9 rfl l (ae 0 _ rfl)) (av rfl (nq (wc_ret ?_))))
 cases oi X
 exact ey results26 ⟨s, rfl, l.s, ad⟩

theorem ok_impl_divisor {p0_a : Int} {p1_b : Int} {r : Int} (hS : SH w K [] w K []) (l : rng64 p0_a) (m : rng64 p1_b) (hm : M.impl_divisor F p0_a p1_b = some r) :
  Calls prog 154 #[.int .i64 p0_a, .int .i64 p1_b] w fun e w' => ∃ K', e = .returned (.int .i64 r) ∧ SH w K [] w' K' [] ∧ rng64 r := by
 rw [M.impl_divisor] at hm
 refine ci func154 rfl ntmps154 (sr (lv (rv_assign (v := .int .i64 0) rfl) (ns ?_)))
 obtain ⟨c, o, q⟩ := ob hm
 refine wc_cutg (IW w K [] K [(0, .int .i64 c)] [] (rng64 c)) ?_ ?_
 ·refine wc_block ?_
  obtain ⟨T, s, x⟩ := ob o
  refine qw (fun (a : Int × Int) => IW w K [] K [(0, .int .i64 a.1), (1, .int .i64 a.2)] [] (rng64 a.1 ∧ rng64 a.2)) s ⟨K, rfl, hS, kr, l, m⟩ ?_
  rintro a _ U V y A ⟨B, rfl, d, f, i, C⟩
  refine wc_seq (sr (mv rfl (lv (rv_neq rfl rfl) (nq (wcc y rfl (fun D b => ?_) (fun D b => ?_))))))
  ·refine wc_skip (qe_seq (wc_block (wc_quiet mixed (by kernel_rfl) d (km rfl (km rfl (km rfl ?_))))))
   obtain ⟨W, k, G⟩ := ob b
   refine kv (rv_rem rfl rfl k) (kv (rv_assign rfl) (kv (rv_assign rfl) (wq_nil ?_)))
   rintro X ⟨H, I, J⟩
   refine qe_block ?_
   cases oi G
   exact qd ⟨_, rfl, H, rfl, I, (f.trans J), C, (rng_rem i k)⟩
  refine wc_exit (qe_then_exit (qe_then_exit ?_))
  cases oi b
  cases A _ rfl
  refine qe_block_eq ?_
  cases oi x
  exact qd ⟨B, rfl, d, f, i⟩
 rintro _ Y ⟨O, rfl, R, aa, S⟩
 refine qr (mv rfl (mv rfl (lv (rv_neg rfl) (lv (rv_max2 rfl rfl) (av rfl (nq (wc_ret ?_)))))))
 cases oi q
 exact ey results154 ⟨O, rfl, R, (rng_max S (w64_rng _))⟩

theorem ok_impl_RatOk {p0_r : GRat} {r : Bool} (hS : SH w K [] w K []) (l : rng64 p0_r.Up) (m : rng64 p0_r.Down) (hm : M.impl_RatOk F p0_r = some r) :
  Calls prog 98 #[.agg #[.int .i64 p0_r.Up, .int .i64 p0_r.Down]] w fun e w' => ∃ K', e = .returned (.bool r) ∧ SH w K [] w' K' [] := by
 rw [M.impl_RatOk] at hm
 refine ci func98 rfl ntmps98 (sr (bx rfl hS fun g3 R o => ?_))
 have f : SH _ _ _ _ _ [obj g3 [.int .i64 p0_r.Up, .int .i64 p0_r.Down] 73] := o
 refine lv (rv_assign (v := .bool false) rfl) (nr (fa ff73_0 rfl (lv (rv_loadm1 tf3 rfl m0 f rfl) ?_)))
 obtain ⟨S, q, s⟩ := ob hm
 refine lk co58 ((ok_impl_within F) f.enter0 l (by decide : rng64 (-1000000000)) (by decide : rng64 1000000000) q) ?_
 rintro T U ⟨x, rfl, y⟩
 have d := (f.c0 y).t1
 refine mv rfl (bt s (fun b i => ?_) (fun b i => ?_))
 ·refine lg b (rv_fieldAddr ff73_1 rfl) (lg b (rv_loadm1 tf3 rfl m0 d rfl) ?_)
  obtain ⟨V, A, B⟩ := ob i
  refine wl_call (wg rfl rfl b) rfl (rt_call (vs := [.int .i64 p0_r.Down, .int .i64 1, .int .i64 1000000000]) co58 rfl) ((ok_impl_within F) d.enter0 m (by decide : rng64 1) (by decide : rng64 1000000000) A) ?_
  rintro W X ⟨C, rfl, D⟩
  refine ⟨_, rfl, ?_⟩
  have c := (d.c0 D).t1
  refine lv (rv_pick_t rfl b rfl) (mv rfl (bt B (fun a k => ?_) (fun a k => ?_)))
  ·refine lg a (rv_fieldAddr ff73_0 rfl) (lg a (rv_loadm1 tf3 rfl m0 c rfl) (lg a (rv_fieldAddr ff73_1 rfl) (lg a (rv_loadm1 tf3 rfl m0 c rfl) ?_)))
   obtain ⟨Y, G, H⟩ := ob k
   refine wl_call (wg rfl rfl a) rfl (rt_call (vs := [.int .i64 p0_r.Up, .int .i64 p0_r.Down]) co154 rfl) ((ok_impl_divisor F) c.enter0 l m G) ?_
   rintro aa ab ⟨I, rfl, J, ac⟩
   refine ⟨_, rfl, ?_⟩
   have O := (c.c0 J).t1
   refine lg a (rv_eql rfl rfl) (lv (rv_pick_t rfl a rfl) (av rfl (nq (wc_ret ?_))))
   cases oi H
   exact ey results98 ⟨I, rfl, O.s⟩
  iterate 6 refine lu a ?_
  refine lv (rv_pick_f (v := .bool false) rfl a rfl) (av rfl (nq (wc_ret ?_)))
  cases oi k
  exact ey results98 ⟨C, rfl, c.s⟩
 refine lu b (lu b (lu b (lv (rv_pick_f (v := .bool false) rfl b rfl) (mv rfl ?_))))
 iterate 6 refine lu rfl ?_
 refine lv (rv_pick_f (v := .bool false) rfl rfl rfl) (av rfl (nq (wc_ret ?_)))
 cases oi i
 exact ey results98 ⟨x, rfl, d.s⟩
end Go.Proofs.YtmkhlppjphodfaaGreatDoor
