/-
 Walks of the functions. Printed by gen.py.
-/
import Derived.Test.YtoeajphlomankaaGreatDoorWalkA4
set_option linter.unusedVariables false
set_option maxRecDepth 100000
namespace Go.Proofs.YtoeajphlomankaaGreatDoor
open Go Go.Fk Go.RowKit Tryz

theorem ok_impl_Seg_long__ofGScorer1 (F : Nat) {w : World} {K : KMap} {g1 : Nat} {k : Option Addr} {l m : Nat} {o : Option Addr} {q s : Nat} {x : Option Addr} {y A : Nat} {B : Option Addr} {C D : Nat} {a : Option Addr} {b c : Nat} {d : Option Addr} {f i : Nat} {p0_s : GScorer} {p1_c : GConf} {p2_field : Str} {p3_id : Int} {r : Int} (hS : SH w K (List.flatMap Item.gs [obj g1 [.slice k l m, .slice o q s, .slice x y A, .slice B C D] 80]) w K [obj g1 [.slice k l m, .slice o q s, .slice x y A, .slice B C D] 80]) (ag : SliceAt tStr K k l m p0_s.c_.Stops) (ah : SliceAt tGSyn K o q s p0_s.c_.Syns) (ai : SliceAt tGDoc K x y A p0_s.s_.Docs) (aj : SliceAt tGEntry K B C D p0_s.s_.Entries) (ak : SliceAt tStr K a b c p1_c.Stops) (am : SliceAt tGSyn K d f i p1_c.Syns) (an : p2_field.length ≤ maxLen) (ao : rng64 p3_id) (hm : M.impl_Seg_long__ofGScorer1 F p0_s p1_c p2_field p3_id = some r) :
  Calls Tryz.prog 96 #[.pointer (some ⟨g1, 2, none⟩), .agg #[.slice a b c, .slice d f i], sv p2_field, .int .i64 p3_id] w fun e w' => ∃ K', e = .returned (.int .i64 r) ∧ SH w K (List.flatMap Item.gs [obj g1 [.slice k l m, .slice o q s, .slice x y A, .slice B C D] 80]) w' K' [obj g1 [.slice k l m, .slice o q s, .slice x y A, .slice B C D] 80] ∧ rng64 r := by
 rw [M.impl_Seg_long__ofGScorer1] at hm
 refine calls_in func96 rfl ntmps96 rfl (sr (bx rfl hS fun Z aM ap => ?_))
 have aq : SH _ _ _ _ _ [obj Z [.slice a b c, .slice d f i] 26, _] := ap
 refine lv (rv_assign (v := .int .i64 0) rfl) (nr (mv rfl (mv rfl ?_)))
 obtain ⟨G, ar, au⟩ := ob hm
 have aa := aq.f1
 refine lc (vs := [.pointer (some ⟨g1, 2, none⟩), .int .i64 p3_id]) co79 ((ok_impl_Seg_doc__ofGScorer1 F) aa.e1 ag ah ai aj ao ar) ?_
 rintro aN aO ⟨H, I, J, O, R, S, ab, rfl, X, aw, ax, ay⟩
 refine ⟨_, rfl, ?_⟩
 have az := (aa.c1 X).t2
 refine mv rfl (lv (rv_extract rfl rfl) (lv (rv_extract rfl rfl) (al tf71 az fun ac aP aA => ?_)))
 have aB : SH _ _ _ _ _ [obj ac [.int .i64 0, .slice none 0 0, .slice none 0 0] 71, _, _] := aA
 refine ls [.int .i64 G.1.Id, .slice H I J, .slice O R S] (.agg #[.int .i64 G.1.Id, .slice H I J, .slice O R S]) tf71 aB fun aQ ad => (av rfl (nsr (mv rfl (lv (rv_not rfl) (nq (wcc au rfl (fun aC Y => ?_) (fun aC Y => ?_)))))))
 ·refine sr (lv (rv_assign (v := .int .i64 0) rfl) (nq (rr ?_)))
  obtain rfl := oi Y
  have aD := ad.sb (sd (sk (sd sz)))
  exact er results96 ⟨rfl, trivial⟩ ⟨ab, rfl, aD, (by decide : rng64 0)⟩
 refine wc_skip (qs ?_)
 have T := ad.drew
 refine wh1 (fun w' => Holds ab w' ∧ HasObj Z [.slice a b c, .slice d f i] w' ∧ HasObj ac [.int .i64 G.1.Id, .slice H I J, .slice O R S] w') (fun w' => True) 7 [] mixed ⟨T.hasK (KLe.refl _), T.hasObj m2, T.hasObj m0⟩ (fun _ => trivial) (gh (fun _ h => rh_loadmS (ds := [.slice a b c, .slice d f i]) tf26 rfl rfl rfl h.2.1) (gh (fun _ h => rh_loadmS (ds := [.int .i64 G.1.Id, .slice H I J, .slice O R S]) tf71 rfl rfl rfl h.2.2) (gt (rv_move rfl) (gn ?_))))
 obtain ⟨aE, aF, aG⟩ := ob Y
 refine lc (vs := [.agg #[.int .i64 G.1.Id, .slice H I J, .slice O R S], sv p2_field]) co147 ((ok_impl_DocField F) T.enter0 aw ax ay an aF) ?_
 rintro aR aS ⟨aT, rfl, U, aH⟩
 refine ⟨_, rfl, ?_⟩
 have V := (T.c0 U).t3
 refine wl_nil (qh ⟨V.hasK U.le, V.hasObj m2, V.hasObj m0⟩ (fun _ => trivial) (gn ?_))
 obtain ⟨aU, aI, aJ⟩ := ob aG
 refine lc (vs := [.agg #[.slice a b c, .slice d f i], sv aE]) co78 ((ok_impl_TermsOf F) V.enter0 (ak.mono (X.le.trans U.le)) (am.mono (X.le.trans U.le)) aH aI) ?_
 rintro aV aW ⟨aX, aY, aZ, aK, rfl, ae, af⟩
 refine ⟨_, rfl, ?_⟩
 have W := (V.c0 ae).t4
 refine wl_nil (qh ⟨W.hasK (U.le.trans ae.le), W.hasObj m3, W.hasObj m1⟩ (fun _ => trivial) (gt (rv_len (t := tGTerm) underlying127 rfl af) (gt (rv_assign rfl) (gd' (qe_seq (wc_ret ?_))))))
 obtain rfl := oi aJ
 have aL := W.sb (sd (sd (sk (sd sz))))
 exact er results96 ⟨rfl, trivial⟩ ⟨aK, rfl, aL, (rng_nat (SliceAt.max af))⟩

set_option maxHeartbeats 2000000 in
theorem ok_impl_scorer_points (F : Nat) {w : World} {K : KMap} {g1 : Nat} {f : Option Addr} {k m : Nat} {o : Option Addr} {q s : Nat} {y : Option Addr} {A B : Nat} {D : Option Addr} {G H : Nat} {p0_x : GScorer} {p1_field : Str} {p2_term : Str} {p3_id : Int} {r : Int} (hS : SH w K (List.flatMap Item.gs [obj g1 [.slice f k m, .slice o q s, .slice y A B, .slice D G H] 80]) w K [obj g1 [.slice f k m, .slice o q s, .slice y A B, .slice D G H] 80]) (O : SliceAt tStr K f k m p0_x.c_.Stops) (R : SliceAt tGSyn K o q s p0_x.c_.Syns) (I : SliceAt tGDoc K y A B p0_x.s_.Docs) (ae : SliceAt tGEntry K D G H p0_x.s_.Entries) (af : p1_field.length ≤ maxLen) (aD : p2_term.length ≤ maxLen) (aR : rng64 p3_id) (hm : M.impl_scorer_points F p0_x p1_field p2_term p3_id = some r) :
  Calls Tryz.prog 70 #[.pointer (some ⟨g1, 0, none⟩), sv p1_field, sv p2_term, .int .i64 p3_id] w fun e w' => ∃ K', e = .returned (.int .i64 r) ∧ SH w K (List.flatMap Item.gs [obj g1 [.slice f k m, .slice o q s, .slice y A B, .slice D G H] 80]) w' K' [obj g1 [.slice f k m, .slice o q s, .slice y A B, .slice D G H] 80] ∧ rng64 r := by
 rw [M.impl_scorer_points] at hm
 refine calls_in func70 rfl ntmps70 rfl (sr (lv (rv_assign (v := .int .i64 0) rfl) (nr (mv rfl (mv rfl (mv rfl (mv rfl ?_)))))))
 obtain ⟨aE, bm, bn⟩ := ob hm
 refine lc (vs := [pt g1, sv p1_field, sv p2_term, .int .i64 p3_id]) co114 ((ok_impl_scorer_places F) hS.e1 O R I ae af aD aR bm) ?_
 rintro ch ci ⟨a5, a7, a8, aF, rfl, b, ah⟩
 refine ⟨_, rfl, ?_⟩
 have aS := (hS.c1 b).t1
 refine av rfl (nsr (mv rfl (lv (rv_len (t := tInt) underlying39 rfl ah) (lv (rv_eql rfl rfl) (nq (wcc bn rfl (fun bo aT => ?_) (fun bo aT => ?_)))))))
 ·refine sr (lv (rv_assign (v := .int .i64 0) rfl) (nq (rr ?_)))
  obtain rfl := oi aT
  exact er results70 ⟨rfl, trivial⟩ ⟨aF, rfl, aS, (by decide : rng64 0)⟩
 refine wc_skip (qr (lv (rv_assign (v := .int .i64 0) rfl) (nsr (mv rfl (lv (rv_nilCheck rfl) (fa ff80_1 rfl (fa ff30_0 rfl (lv (rv_loadm1 tf27 rfl m0 aS rfl) (lv (rv_len (t := tGDoc) underlying27 rfl (I.mono b.le)) ?_)))))))))
 refine lv (rv_move (v := .int .i64 0) rfl) (nq ?_)
 obtain ⟨ai, bp, bq⟩ := ob aT
 refine wc_cutg (fun E' w' => ∃ ao, E' = [(0, pt g1), (1, sv p1_field), (2, sv p2_term), (3, .int .i64 p3_id), (9, .slice a5 a7 a8), (10, .int .i64 ai)] ∧ SH w K (List.flatMap Item.gs [obj g1 [.slice f k m, .slice o q s, .slice y A B, .slice D G H] 80]) w' ao [obj g1 [.slice f k m, .slice o q s, .slice y A B, .slice D G H] 80] ∧ KLe aF ao ∧ rng64 ai) ?_ ?_
 ·refine wc_block ?_
  obtain ⟨cj, br, bs⟩ := ob bp
  refine qF (fun (a9 : Nat) (aG : Int) E' w' => ∃ aj, E' = [(0, pt g1), (1, sv p1_field), (2, sv p2_term), (3, .int .i64 p3_id), (9, .slice a5 a7 a8), (10, .int .i64 aG), (27, .slice y A B), (28, .int .i64 (p0_x.s_.Docs.length : Int)), (29, .int .i64 ((a9 : Nat) : Int))] ∧ SH w K (List.flatMap Item.gs [obj g1 [.slice f k m, .slice o q s, .slice y A B, .slice D G H] 80]) w' aj [obj g1 [.slice f k m, .slice o q s, .slice y A B, .slice D G H] 80] ∧ KLe aF aj ∧ rng64 aG) br ⟨aF, rfl, aS, (KLe.refl _), (by decide : rng64 0)⟩ ?_ ?_
  ·rintro a9 aG _ bt ck hi54 bu ⟨aj, rfl, aH, S, ba⟩
   refine sr (lv (rv_lss rfl rfl) (ns (wc_cond_t rfl (decide_eq_true (by omega)) (wc_skip (qe_seq (wc_seq (wc_block (sr ?_))))))))
   obtain ⟨ak, bv, bw⟩ := ob bu
   refine li underlying27 tf71 (I.mono (b.le.trans S)) bv fun bx bz cl bA bB => ?_
   obtain ⟨ap, aq, ar, au, aw, ax, rfl, bC, cm, cn⟩ := bA
   have bD : AtK _ bx bz [.int .i64 ak.Id, .slice ap aq ar, .slice au aw ax] := bB
   refine lv (rv_loadS (cs := [.int .i64 ak.Id, .slice ap aq ar, .slice au aw ax]) tf71 rfl aH bD rfl) (al tf71 aH fun bb cp bE => ?_)
   have bF : SH _ _ _ _ _ [obj bb [.int .i64 0, .slice none 0 0, .slice none 0 0] 71, _] := bE
   refine ls [.int .i64 ak.Id, .slice ap aq ar, .slice au aw ax] (.agg #[.int .i64 ak.Id, .slice ap aq ar, .slice au aw ax]) tf71 bF fun cq bG => (nq ?_)
   have aI := bG.drew
   refine wh1 (fun w' => Holds aj w' ∧ HasObj g1 [.slice f k m, .slice o q s, .slice y A B, .slice D G H] w' ∧ HasObj bb [.int .i64 ak.Id, .slice ap aq ar, .slice au aw ax] w') (fun w' => True) 14 [] mixed ⟨aI.hasK (KLe.refl _), aI.hasObj m1, aI.hasObj m0⟩ (fun _ => trivial) (gt (rv_move rfl) (gt (rv_move rfl) (gt (rv_nilCheck rfl) (gt (rv_fieldAddr ff80_1 rfl) (gt (rv_move rfl) (gt (rv_nilCheck rfl) (gt (rv_fieldAddr ff80_0 rfl) (gh (fun _ h => rh_loadmS (ds := [.slice f k m, .slice o q s]) tf26 rfl rfl rfl h.2.1) (gt (rv_move rfl) ?_)))))))))
   refine gt (rv_fieldAddr ff71_0 rfl) (gh (fun _ h => rh_loadm1 tf3 rfl rfl h.2.2) (gn ?_))
   obtain ⟨cr, bH, bI⟩ := ob bw
   have bc := aI.f1
   refine lc (vs := [.pointer (some ⟨g1, 2, none⟩), .agg #[.slice f k m, .slice o q s], sv p1_field, .int .i64 ak.Id]) co96 ((ok_impl_Seg_long__ofGScorer1 F) bc.e1 (O.mono (b.le.trans S)) (R.mono (b.le.trans S)) (I.mono (b.le.trans S)) (ae.mono (b.le.trans S)) (O.mono (b.le.trans S)) (R.mono (b.le.trans S)) af bC bH) ?_
   rintro ct cu ⟨bJ, rfl, aU, cv⟩
   refine ⟨_, rfl, ?_⟩
   have aJ := (bc.c1 aU).t2
   refine wl_nil (qh ⟨aJ.hasK aU.le, aJ.hasObj m0, aJ.hasObj m1⟩ (fun _ => trivial) (gt (rv_add rfl rfl) (gt (rv_assign rfl) (gd' (qe_block (qg (lv (rv_add_to rfl rfl (w64_succ hi54 (SliceAt.max (I.mono b.le)))) (mv rfl (wl_nil ?_)))))))))
   obtain rfl := oi bI
   have bK := aJ.sb (sk (sd sz))
   exact qd ⟨bJ, rfl, bK, (S.trans aU.le), (w64_rng _)⟩
  rintro aG _ bt bL ⟨aj, rfl, aH, S, ba⟩
  subst bL
  refine sr (lv (rv_lss rfl rfl) (ns (wc_cond_f rfl (decide_eq_false (by omega)) (wc_exit (qe_then_exit (qe_then_exit (qe_block_eq ?_)))))))
  obtain rfl := oi bs
  exact qd ⟨aj, rfl, aH, S, ba⟩
 rintro _ cw ⟨ao, rfl, bM, d, aK⟩
 refine qs ?_
 obtain ⟨aa, bN, bO⟩ := ob bq
 refine wc_cutg (fun E' w' => ∃ aV aW, E' = [(0, pt g1), (13, pt aV)] ∧ SH w K (List.flatMap Item.gs [obj g1 [.slice f k m, .slice o q s, .slice y A B, .slice D G H] 80]) w' aW [obj aV [.int .i64 aa.Up, .int .i64 aa.Down] 92, obj g1 [.slice f k m, .slice o q s, .slice y A B, .slice D G H] 80] ∧ KLe ao aW ∧ rng64 aa.Up ∧ rng64 aa.Down) ?_ ?_
 ·obtain ⟨aL, bd, bP⟩ := ob bN
  obtain ⟨aM, aX, bQ⟩ := ob bP
  obtain ⟨C, aN, aO⟩ := ob bQ
  refine wc_held (fun w' => Holds ao w' ∧ HasObj g1 [.slice f k m, .slice o q s, .slice y A B, .slice D G H] w') (fun w' => True) 33 [] mixed ?_
  have a := bM.drew
  refine wg_val (i := 0) (listed' := #[true, false, false, false, false, false, false, false, false, false, false, false, false, false, false, false, false, false, false, false, false, false, false, false, false, false, false, false, false, false, false, false, false]) (fun _ => True) rfl (by kernel_rfl) (pk_then (pk_then pk_body)) (by kernel_rfl) rfl (by kernel_rfl) (by kernel_rfl) rfl (.inl fun _ _ => trivial) ⟨⟨a.hasK (KLe.refl _), a.hasObj m0⟩, (fun _ => trivial), by decide⟩ wn rfl (fun _ _ => (rv_move rfl)) (wg_val (i := 1) (listed' := #[true, true, false, false, false, false, false, false, false, false, false, false, false, false, false, false, false, false, false, false, false, false, false, false, false, false, false, false, false, false, false, false, false]) (fun _ => True) rfl (by kernel_rfl) (pk_then (pk_then pk_body)) (by kernel_rfl) rfl (by kernel_rfl) (by kernel_rfl) rfl (.inl fun _ _ => trivial) ⟨⟨a.hasK (KLe.refl _), a.hasObj m0⟩, (fun _ => trivial), by decide⟩ wn rfl (fun _ _ => (rv_len (t := tInt) underlying39 rfl (ah.mono d))) ?_)
  refine wg_val (i := 2) (listed' := #[true, true, true, false, false, false, false, false, false, false, false, false, false, false, false, false, false, false, false, false, false, false, false, false, false, false, false, false, false, false, false, false, false]) (fun _ => True) rfl (by kernel_rfl) (pk_then (pk_then pk_body)) (by kernel_rfl) rfl (by kernel_rfl) (by kernel_rfl) rfl (.inl fun _ _ => trivial) ⟨⟨a.hasK (KLe.refl _), a.hasObj m0⟩, (fun _ => trivial), by decide⟩ wn rfl (fun _ _ => (rv_move rfl)) (wg_val (i := 3) (listed' := #[true, true, true, true, false, false, false, false, false, false, false, false, false, false, false, false, false, false, false, false, false, false, false, false, false, false, false, false, false, false, false, false, false]) (fun _ => True) rfl (by kernel_rfl) (pk_then (pk_then pk_body)) (by kernel_rfl) rfl (by kernel_rfl) (by kernel_rfl) rfl (.inl fun _ _ => trivial) ⟨⟨a.hasK (KLe.refl _), a.hasObj m0⟩, (fun _ => trivial), by decide⟩ wn rfl (fun _ _ => (rv_nilCheck rfl)) ?_)
  refine wg_val (i := 4) (listed' := #[true, true, true, true, true, false, false, false, false, false, false, false, false, false, false, false, false, false, false, false, false, false, false, false, false, false, false, false, false, false, false, false, false]) (fun _ => True) rfl (by kernel_rfl) (pk_then (pk_then pk_body)) (by kernel_rfl) rfl (by kernel_rfl) (by kernel_rfl) rfl (.inl fun _ _ => trivial) ⟨⟨a.hasK (KLe.refl _), a.hasObj m0⟩, (fun _ => trivial), by decide⟩ wn rfl (fun _ _ => (rv_fieldAddr ff80_1 rfl)) (wg_val (i := 5) (listed' := #[true, true, true, true, true, true, false, false, false, false, false, false, false, false, false, false, false, false, false, false, false, false, false, false, false, false, false, false, false, false, false, false, false]) (fun _ => True) rfl (by kernel_rfl) (pk_then (pk_then pk_body)) (by kernel_rfl) rfl (by kernel_rfl) (by kernel_rfl) rfl (.inl fun _ _ => trivial) ⟨⟨a.hasK (KLe.refl _), a.hasObj m0⟩, (fun _ => trivial), by decide⟩ wn rfl (fun _ _ => (rv_move rfl)) ?_)
  refine wg_val (i := 6) (listed' := #[true, true, true, true, true, true, true, false, false, false, false, false, false, false, false, false, false, false, false, false, false, false, false, false, false, false, false, false, false, false, false, false, false]) (fun _ => True) rfl (by kernel_rfl) (pk_then (pk_then pk_body)) (by kernel_rfl) rfl (by kernel_rfl) (by kernel_rfl) rfl (.inl fun _ _ => trivial) ⟨⟨a.hasK (KLe.refl _), a.hasObj m0⟩, (fun _ => trivial), by decide⟩ wn rfl (fun _ _ => (rv_nilCheck rfl)) (wg_val (i := 7) (listed' := #[true, true, true, true, true, true, true, true, false, false, false, false, false, false, false, false, false, false, false, false, false, false, false, false, false, false, false, false, false, false, false, false, false]) (fun _ => True) rfl (by kernel_rfl) (pk_then (pk_then pk_body)) (by kernel_rfl) rfl (by kernel_rfl) (by kernel_rfl) rfl (.inl fun _ _ => trivial) ⟨⟨a.hasK (KLe.refl _), a.hasObj m0⟩, (fun _ => trivial), by decide⟩ wn rfl (fun _ _ => (rv_fieldAddr ff80_0 rfl)) ?_)
  refine wg_val (i := 8) (listed' := #[true, true, true, true, true, true, true, true, true, false, false, false, false, false, false, false, false, false, false, false, false, false, false, false, false, false, false, false, false, false, false, false, false]) (HasObj g1 [.slice f k m, .slice o q s, .slice y A B, .slice D G H]) rfl (by kernel_rfl) (pk_then (pk_then pk_body)) (by kernel_rfl) rfl (by kernel_rfl) (by kernel_rfl) rfl (.inl fun _ h => h.2) ⟨⟨a.hasK (KLe.refl _), a.hasObj m0⟩, (fun _ => trivial), by decide⟩ wn rfl (fun _ h => rh_loadmS (ds := [.slice f k m, .slice o q s]) tf26 rfl rfl rfl h) (wg_val (i := 9) (listed' := #[true, true, true, true, true, true, true, true, true, true, false, false, false, false, false, false, false, false, false, false, false, false, false, false, false, false, false, false, false, false, false, false, false]) (fun _ => True) rfl (by kernel_rfl) (pk_then (pk_then pk_body)) (by kernel_rfl) rfl (by kernel_rfl) (by kernel_rfl) rfl (.inl fun _ _ => trivial) ⟨⟨a.hasK (KLe.refl _), a.hasObj m0⟩, (fun _ => trivial), by decide⟩ wn rfl (fun _ _ => (rv_move rfl)) ?_)
  refine wg_val (i := 10) (listed' := #[true, true, true, true, true, true, true, true, true, true, true, false, false, false, false, false, false, false, false, false, false, false, false, false, false, false, false, false, false, false, false, false, false]) (fun _ => True) rfl (by kernel_rfl) (pk_then (pk_then pk_body)) (by kernel_rfl) rfl (by kernel_rfl) (by kernel_rfl) rfl (.inl fun _ _ => trivial) ⟨⟨a.hasK (KLe.refl _), a.hasObj m0⟩, (fun _ => trivial), by decide⟩ wn rfl (fun _ _ => (rv_move rfl)) (wg_val (i := 12) (listed' := #[true, true, true, true, true, true, true, true, true, true, true, false, true, false, false, false, false, false, false, false, false, false, false, false, false, false, false, false, false, false, false, false, false]) (fun _ => True) rfl (by kernel_rfl) (pk_then (pk_then pk_body)) (by kernel_rfl) rfl (by kernel_rfl) (by kernel_rfl) rfl (.inl fun _ _ => trivial) ⟨⟨a.hasK (KLe.refl _), a.hasObj m0⟩, (fun _ => trivial), by decide⟩ wn rfl (fun _ _ => (rv_move rfl)) ?_)
  refine wg_val (i := 13) (listed' := #[true, true, true, true, true, true, true, true, true, true, true, false, true, true, false, false, false, false, false, false, false, false, false, false, false, false, false, false, false, false, false, false, false]) (fun _ => True) rfl (by kernel_rfl) (pk_then (pk_then pk_body)) (by kernel_rfl) rfl (by kernel_rfl) (by kernel_rfl) rfl (.inl fun _ _ => trivial) ⟨⟨a.hasK (KLe.refl _), a.hasObj m0⟩, (fun _ => trivial), by decide⟩ wn rfl (fun _ _ => (rv_move rfl)) (wg_val (i := 14) (listed' := #[true, true, true, true, true, true, true, true, true, true, true, false, true, true, true, false, false, false, false, false, false, false, false, false, false, false, false, false, false, false, false, false, false]) (fun _ => True) rfl (by kernel_rfl) (pk_then (pk_then pk_body)) (by kernel_rfl) rfl (by kernel_rfl) (by kernel_rfl) rfl (.inl fun _ _ => trivial) ⟨⟨a.hasK (KLe.refl _), a.hasObj m0⟩, (fun _ => trivial), by decide⟩ wn rfl (fun _ _ => (rv_nilCheck rfl)) ?_)
  refine wg_val (i := 15) (listed' := #[true, true, true, true, true, true, true, true, true, true, true, false, true, true, true, true, false, false, false, false, false, false, false, false, false, false, false, false, false, false, false, false, false]) (fun _ => True) rfl (by kernel_rfl) (pk_then (pk_then pk_body)) (by kernel_rfl) rfl (by kernel_rfl) (by kernel_rfl) rfl (.inl fun _ _ => trivial) ⟨⟨a.hasK (KLe.refl _), a.hasObj m0⟩, (fun _ => trivial), by decide⟩ wn rfl (fun _ _ => (rv_fieldAddr ff80_1 rfl)) (wg_val (i := 16) (listed' := #[true, true, true, true, true, true, true, true, true, true, true, false, true, true, true, true, true, false, false, false, false, false, false, false, false, false, false, false, false, false, false, false, false]) (fun _ => True) rfl (by kernel_rfl) (pk_then (pk_then pk_body)) (by kernel_rfl) rfl (by kernel_rfl) (by kernel_rfl) rfl (.inl fun _ _ => trivial) ⟨⟨a.hasK (KLe.refl _), a.hasObj m0⟩, (fun _ => trivial), by decide⟩ wn rfl (fun _ _ => (rv_fieldAddr ff30_0 rfl)) ?_)
  refine wg_val (i := 17) (listed' := #[true, true, true, true, true, true, true, true, true, true, true, false, true, true, true, true, true, true, false, false, false, false, false, false, false, false, false, false, false, false, false, false, false]) (HasObj g1 [.slice f k m, .slice o q s, .slice y A B, .slice D G H]) rfl (by kernel_rfl) (pk_then (pk_then pk_body)) (by kernel_rfl) rfl (by kernel_rfl) (by kernel_rfl) rfl (.inl fun _ h => h.2) ⟨⟨a.hasK (KLe.refl _), a.hasObj m0⟩, (fun _ => trivial), by decide⟩ wn rfl (fun _ h => rh_loadm1 tf27 rfl rfl h) (wg_val (i := 18) (listed' := #[true, true, true, true, true, true, true, true, true, true, true, false, true, true, true, true, true, true, true, false, false, false, false, false, false, false, false, false, false, false, false, false, false]) (fun _ => True) rfl (by kernel_rfl) (pk_then (pk_then pk_body)) (by kernel_rfl) rfl (by kernel_rfl) (by kernel_rfl) rfl (.inl fun _ _ => trivial) ⟨⟨a.hasK (KLe.refl _), a.hasObj m0⟩, (fun _ => trivial), by decide⟩ wn rfl (fun _ _ => (rv_len (t := tGDoc) underlying27 rfl (I.mono (b.le.trans d)))) ?_)
  refine wg_val (i := 19) (listed' := #[true, true, true, true, true, true, true, true, true, true, true, false, true, true, true, true, true, true, true, true, false, false, false, false, false, false, false, false, false, false, false, false, false]) (fun _ => True) rfl (by kernel_rfl) (pk_then (pk_then pk_body)) (by kernel_rfl) rfl (by kernel_rfl) (by kernel_rfl) rfl (.inl fun _ _ => trivial) ⟨⟨a.hasK (KLe.refl _), a.hasObj m0⟩, (fun _ => trivial), by decide⟩ wn rfl (fun _ _ => (rv_move rfl)) (wg_val (i := 20) (listed' := #[true, true, true, true, true, true, true, true, true, true, true, false, true, true, true, true, true, true, true, true, true, false, false, false, false, false, false, false, false, false, false, false, false]) (fun _ => True) rfl (by kernel_rfl) (pk_then (pk_then pk_body)) (by kernel_rfl) rfl (by kernel_rfl) (by kernel_rfl) rfl (.inl fun _ _ => trivial) ⟨⟨a.hasK (KLe.refl _), a.hasObj m0⟩, (fun _ => trivial), by decide⟩ wn rfl (fun _ _ => (rv_nilCheck rfl)) ?_)
  refine wg_val (i := 21) (listed' := #[true, true, true, true, true, true, true, true, true, true, true, false, true, true, true, true, true, true, true, true, true, true, false, false, false, false, false, false, false, false, false, false, false]) (fun _ => True) rfl (by kernel_rfl) (pk_then (pk_then pk_body)) (by kernel_rfl) rfl (by kernel_rfl) (by kernel_rfl) rfl (.inl fun _ _ => trivial) ⟨⟨a.hasK (KLe.refl _), a.hasObj m0⟩, (fun _ => trivial), by decide⟩ wn rfl (fun _ _ => (rv_fieldAddr ff80_1 rfl)) (wg_val (i := 22) (listed' := #[true, true, true, true, true, true, true, true, true, true, true, false, true, true, true, true, true, true, true, true, true, true, true, false, false, false, false, false, false, false, false, false, false]) (fun _ => True) rfl (by kernel_rfl) (pk_then (pk_then pk_body)) (by kernel_rfl) rfl (by kernel_rfl) (by kernel_rfl) rfl (.inl fun _ _ => trivial) ⟨⟨a.hasK (KLe.refl _), a.hasObj m0⟩, (fun _ => trivial), by decide⟩ wn rfl (fun _ _ => (rv_move rfl)) ?_)
  refine wg_val (i := 23) (listed' := #[true, true, true, true, true, true, true, true, true, true, true, false, true, true, true, true, true, true, true, true, true, true, true, true, false, false, false, false, false, false, false, false, false]) (fun _ => True) rfl (by kernel_rfl) (pk_then (pk_then pk_body)) (by kernel_rfl) rfl (by kernel_rfl) (by kernel_rfl) rfl (.inl fun _ _ => trivial) ⟨⟨a.hasK (KLe.refl _), a.hasObj m0⟩, (fun _ => trivial), by decide⟩ wn rfl (fun _ _ => (rv_move rfl)) (wg_many (l := [11, 30]) (by kernel_rfl) rfl ⟨⟨_, rfl, ?_⟩, ⟨_, rfl, ?_⟩, trivial⟩)
  ·refine lc (vs := [.pointer (some ⟨g1, 2, none⟩), .agg #[.slice f k m, .slice o q s], sv p1_field, .int .i64 p3_id]) co96 ((ok_impl_Seg_long__ofGScorer1 F) a.e1 (O.mono (b.le.trans d)) (R.mono (b.le.trans d)) (I.mono (b.le.trans d)) (ae.mono (b.le.trans d)) (O.mono (b.le.trans d)) (R.mono (b.le.trans d)) af aR bd) ?_
   rintro cx cy ⟨cz, rfl, c, aY⟩
   refine ⟨_, rfl, ?_⟩
   have ay := (a.c1 c).t1
   refine wl_nil (qe_held (listed' := #[true, true, true, true, true, true, true, true, true, true, true, true, true, true, true, true, true, true, true, true, true, true, true, true, false, false, false, false, false, false, false, false, false]) rfl ⟨⟨ay.hasK c.le, ay.hasObj m0⟩, (fun _ => trivial), by decide⟩ (wg_many (l := [24, 30]) (by kernel_rfl) rfl ⟨⟨_, rfl, ?_⟩, ⟨_, rfl, ?_⟩, trivial⟩))
   ·refine lc (vs := [.pointer (some ⟨g1, 2, none⟩), sv p1_field, sv p2_term]) co44 ((ok_impl_Seg_posts__ofGScorer1 F) ay.e1 (O.mono ((b.le.trans d).trans c.le)) (R.mono ((b.le.trans d).trans c.le)) (I.mono ((b.le.trans d).trans c.le)) (ae.mono ((b.le.trans d).trans c.le)) af aD aX) ?_
    rintro cA cB ⟨cC, cD, cE, cF, rfl, x, aZ⟩
    refine ⟨_, rfl, ?_⟩
    have ag := (ay.c1 x).t1
    refine wl_nil (qe_held (listed' := #[true, true, true, true, true, true, true, true, true, true, true, true, true, true, true, true, true, true, true, true, true, true, true, true, true, false, false, false, false, false, false, false, false]) rfl ⟨⟨ag.hasK (c.le.trans x.le), ag.hasObj m0⟩, (fun _ => trivial), by decide⟩ (wg_val (i := 25) (listed' := #[true, true, true, true, true, true, true, true, true, true, true, true, true, true, true, true, true, true, true, true, true, true, true, true, true, true, false, false, false, false, false, false, false]) (fun _ => True) rfl (by kernel_rfl) (pk_then (pk_then pk_body)) (by kernel_rfl) rfl (by kernel_rfl) (by kernel_rfl) rfl (.inl fun _ _ => trivial) ⟨⟨ag.hasK (c.le.trans x.le), ag.hasObj m0⟩, (fun _ => trivial), by decide⟩ wn rfl (fun _ _ => (rv_len (t := tGPost) underlying37 rfl aZ)) (wg_many (l := [26, 30]) (by kernel_rfl) rfl ⟨⟨_, rfl, ?_⟩, ⟨_, rfl, ?_⟩, trivial⟩)))
    ·refine lc (vs := [.int .i64 (aE.length : Int), .int .i64 aL, .int .i64 ai, .int .i64 (p0_x.s_.Docs.length : Int), .int .i64 (aM.length : Int)]) co46 ((ok_impl_TermScore F) ag.enter0 (rng_nat (SliceAt.max (ah.mono d))) aY aK (rng_nat (SliceAt.max (I.mono (b.le.trans d)))) (rng_nat (SliceAt.max aZ)) aN) ?_
     rintro cG cH ⟨bR, rfl, V, bS, bT⟩
     refine ⟨_, rfl, ?_⟩
     have W := (ag.c0 V).t1
     refine wl_nil (qe_held (listed' := #[true, true, true, true, true, true, true, true, true, true, true, true, true, true, true, true, true, true, true, true, true, true, true, true, true, true, true, false, false, false, false, false, false]) rfl ⟨⟨W.hasK ((c.le.trans x.le).trans V.le), W.hasObj m0⟩, (fun _ => trivial), by decide⟩ (wg_val (i := 27) (listed' := #[true, true, true, true, true, true, true, true, true, true, true, true, true, true, true, true, true, true, true, true, true, true, true, true, true, true, true, true, false, false, false, false, false]) (fun _ => True) rfl (by kernel_rfl) (pk_then (pk_then pk_body)) (by kernel_rfl) rfl (by kernel_rfl) (by kernel_rfl) rfl (.inl fun _ _ => trivial) ⟨⟨W.hasK ((c.le.trans x.le).trans V.le), W.hasObj m0⟩, (fun _ => trivial), by decide⟩ wn rfl (fun _ _ => (rv_move rfl)) ?_))
     refine wg_val (i := 28) (listed' := #[true, true, true, true, true, true, true, true, true, true, true, true, true, true, true, true, true, true, true, true, true, true, true, true, true, true, true, true, true, false, false, false, false]) (fun _ => True) rfl (by kernel_rfl) (pk_then (pk_then pk_body)) (by kernel_rfl) rfl (by kernel_rfl) (by kernel_rfl) rfl (.inl fun _ _ => trivial) ⟨⟨W.hasK ((c.le.trans x.le).trans V.le), W.hasObj m0⟩, (fun _ => trivial), by decide⟩ wn rfl (fun _ _ => (rv_extract rfl rfl)) (wg_val (i := 29) (listed' := #[true, true, true, true, true, true, true, true, true, true, true, true, true, true, true, true, true, true, true, true, true, true, true, true, true, true, true, true, true, true, false, false, false]) (fun _ => True) rfl (by kernel_rfl) (pk_then (pk_then pk_body)) (by kernel_rfl) rfl (by kernel_rfl) (by kernel_rfl) rfl (.inl fun _ _ => trivial) ⟨⟨W.hasK ((c.le.trans x.le).trans V.le), W.hasObj m0⟩, (fun _ => trivial), by decide⟩ wn rfl (fun _ _ => (rv_extract rfl rfl)) (wg_one (i := 30) (by kernel_rfl) rfl (al tf92 W fun be cI bU => ?_)))
     have a0 : SH _ _ _ _ _ [obj be [.int .i64 0, .int .i64 0] 92, _] := bU
     refine wl_nil (qe_held (listed' := #[true, true, true, true, true, true, true, true, true, true, true, true, true, true, true, true, true, true, true, true, true, true, true, true, true, true, true, true, true, true, true, false, false]) rfl ⟨⟨a0.hasK ((c.le.trans x.le).trans V.le), a0.hasObj m1⟩, (fun _ => trivial), by decide⟩ (wg_one (i := 31) (by kernel_rfl) rfl (ls [.int .i64 C.1.Up, .int .i64 C.1.Down] (.agg #[.int .i64 C.1.Up, .int .i64 C.1.Down]) tf92 a0 fun cJ az => (wl_nil (qe_held (listed' := #[true, true, true, true, true, true, true, true, true, true, true, true, true, true, true, true, true, true, true, true, true, true, true, true, true, true, true, true, true, true, true, true, false]) rfl ⟨⟨az.hasK ((c.le.trans x.le).trans V.le), az.hasObj m1⟩, (fun _ => trivial), by decide⟩ (wg_val (i := 32) (listed' := #[true, true, true, true, true, true, true, true, true, true, true, true, true, true, true, true, true, true, true, true, true, true, true, true, true, true, true, true, true, true, true, true, true]) (fun _ => True) rfl (by kernel_rfl) (pk_then (pk_then pk_body)) (by kernel_rfl) rfl (by kernel_rfl) (by kernel_rfl) rfl (.inl fun _ _ => trivial) ⟨⟨az.hasK ((c.le.trans x.le).trans V.le), az.hasObj m1⟩, (fun _ => trivial), by decide⟩ wn rfl (fun _ _ => (rv_assign rfl)) ?_))))))
     refine wg_done (by kernel_rfl) ?_
     obtain rfl := oi aO
     exact qd ⟨be, bR, rfl, az, ((c.le.trans x.le).trans V.le), bS, bT⟩
    refine al tf92 ag fun bf cK bV => ?_
    have aP : SH _ _ _ _ _ [obj bf [.int .i64 0, .int .i64 0] 92, _] := bV
    refine wl_nil (qe_held (listed' := #[true, true, true, true, true, true, true, true, true, true, true, true, true, true, true, true, true, true, true, true, true, true, true, true, true, true, false, false, false, false, true, false, false]) rfl ⟨⟨aP.hasK (c.le.trans x.le), aP.hasObj m1⟩, (fun _ => trivial), by decide⟩ (wg_one (i := 26) (by kernel_rfl) rfl (lc (vs := [.int .i64 (aE.length : Int), .int .i64 aL, .int .i64 ai, .int .i64 (p0_x.s_.Docs.length : Int), .int .i64 (aM.length : Int)]) co46 ((ok_impl_TermScore F) aP.enter0 (rng_nat (SliceAt.max (ah.mono d))) aY aK (rng_nat (SliceAt.max (I.mono (b.le.trans d)))) (rng_nat (SliceAt.max aZ)) aN) ?_)))
    rintro cL cM ⟨bW, rfl, ab, bX, bY⟩
    refine ⟨_, rfl, ?_⟩
    have X := (aP.c0 ab).t2
    refine wl_nil (qe_held (listed' := #[true, true, true, true, true, true, true, true, true, true, true, true, true, true, true, true, true, true, true, true, true, true, true, true, true, true, true, false, false, false, true, false, false]) rfl ⟨⟨X.hasK ((c.le.trans x.le).trans ab.le), X.hasObj m1⟩, (fun _ => trivial), by decide⟩ (wg_val (i := 27) (listed' := #[true, true, true, true, true, true, true, true, true, true, true, true, true, true, true, true, true, true, true, true, true, true, true, true, true, true, true, true, false, false, true, false, false]) (fun _ => True) rfl (by kernel_rfl) (pk_then (pk_then pk_body)) (by kernel_rfl) rfl (by kernel_rfl) (by kernel_rfl) rfl (.inl fun _ _ => trivial) ⟨⟨X.hasK ((c.le.trans x.le).trans ab.le), X.hasObj m1⟩, (fun _ => trivial), by decide⟩ wn rfl (fun _ _ => (rv_move rfl)) ?_))
    refine wg_val (i := 28) (listed' := #[true, true, true, true, true, true, true, true, true, true, true, true, true, true, true, true, true, true, true, true, true, true, true, true, true, true, true, true, true, false, true, false, false]) (fun _ => True) rfl (by kernel_rfl) (pk_then (pk_then pk_body)) (by kernel_rfl) rfl (by kernel_rfl) (by kernel_rfl) rfl (.inl fun _ _ => trivial) ⟨⟨X.hasK ((c.le.trans x.le).trans ab.le), X.hasObj m1⟩, (fun _ => trivial), by decide⟩ wn rfl (fun _ _ => (rv_extract rfl rfl)) (wg_val (i := 29) (listed' := #[true, true, true, true, true, true, true, true, true, true, true, true, true, true, true, true, true, true, true, true, true, true, true, true, true, true, true, true, true, true, true, false, false]) (fun _ => True) rfl (by kernel_rfl) (pk_then (pk_then pk_body)) (by kernel_rfl) rfl (by kernel_rfl) (by kernel_rfl) rfl (.inl fun _ _ => trivial) ⟨⟨X.hasK ((c.le.trans x.le).trans ab.le), X.hasObj m1⟩, (fun _ => trivial), by decide⟩ wn rfl (fun _ _ => (rv_extract rfl rfl)) (wg_one (i := 31) (by kernel_rfl) rfl (ls [.int .i64 C.1.Up, .int .i64 C.1.Down] (.agg #[.int .i64 C.1.Up, .int .i64 C.1.Down]) tf92 X fun cN aA => ?_)))
    refine wl_nil (qe_held (listed' := #[true, true, true, true, true, true, true, true, true, true, true, true, true, true, true, true, true, true, true, true, true, true, true, true, true, true, true, true, true, true, true, true, false]) rfl ⟨⟨aA.hasK ((c.le.trans x.le).trans ab.le), aA.hasObj m1⟩, (fun _ => trivial), by decide⟩ (wg_val (i := 32) (listed' := #[true, true, true, true, true, true, true, true, true, true, true, true, true, true, true, true, true, true, true, true, true, true, true, true, true, true, true, true, true, true, true, true, true]) (fun _ => True) rfl (by kernel_rfl) (pk_then (pk_then pk_body)) (by kernel_rfl) rfl (by kernel_rfl) (by kernel_rfl) rfl (.inl fun _ _ => trivial) ⟨⟨aA.hasK ((c.le.trans x.le).trans ab.le), aA.hasObj m1⟩, (fun _ => trivial), by decide⟩ wn rfl (fun _ _ => (rv_assign rfl)) (wg_done (by kernel_rfl) ?_)))
    obtain rfl := oi aO
    exact qd ⟨bf, bW, rfl, aA, ((c.le.trans x.le).trans ab.le), bX, bY⟩
   refine al tf92 ay fun bg cO bZ => ?_
   have a1 : SH _ _ _ _ _ [obj bg [.int .i64 0, .int .i64 0] 92, _] := bZ
   refine wl_nil (qe_held (listed' := #[true, true, true, true, true, true, true, true, true, true, true, true, true, true, true, true, true, true, true, true, true, true, true, true, false, false, false, false, false, false, true, false, false]) rfl ⟨⟨a1.hasK c.le, a1.hasObj m1⟩, (fun _ => trivial), by decide⟩ (wg_one (i := 24) (by kernel_rfl) rfl ?_))
   have bh := a1.f1
   refine lc (vs := [.pointer (some ⟨g1, 2, none⟩), sv p1_field, sv p2_term]) co44 ((ok_impl_Seg_posts__ofGScorer1 F) bh.e1 (O.mono ((b.le.trans d).trans c.le)) (R.mono ((b.le.trans d).trans c.le)) (I.mono ((b.le.trans d).trans c.le)) (ae.mono ((b.le.trans d).trans c.le)) af aD aX) ?_
   rintro cP cQ ⟨cR, cS, cT, cU, rfl, T, bi⟩
   refine ⟨_, rfl, ?_⟩
   have am := (bh.c1 T).t2
   refine wl_nil (qe_held (listed' := #[true, true, true, true, true, true, true, true, true, true, true, true, true, true, true, true, true, true, true, true, true, true, true, true, true, false, false, false, false, false, true, false, false]) rfl ⟨⟨am.hasK (c.le.trans T.le), am.hasObj m0⟩, (fun _ => trivial), by decide⟩ (wg_val (i := 25) (listed' := #[true, true, true, true, true, true, true, true, true, true, true, true, true, true, true, true, true, true, true, true, true, true, true, true, true, true, false, false, false, false, true, false, false]) (fun _ => True) rfl (by kernel_rfl) (pk_then (pk_then pk_body)) (by kernel_rfl) rfl (by kernel_rfl) (by kernel_rfl) rfl (.inl fun _ _ => trivial) ⟨⟨am.hasK (c.le.trans T.le), am.hasObj m0⟩, (fun _ => trivial), by decide⟩ wn rfl (fun _ _ => (rv_len (t := tGPost) underlying37 rfl bi)) (wg_one (i := 26) (by kernel_rfl) rfl (lc (vs := [.int .i64 (aE.length : Int), .int .i64 aL, .int .i64 ai, .int .i64 (p0_x.s_.Docs.length : Int), .int .i64 (aM.length : Int)]) co46 ((ok_impl_TermScore F) am.enter0 (rng_nat (SliceAt.max (ah.mono d))) aY aK (rng_nat (SliceAt.max (I.mono (b.le.trans d)))) (rng_nat (SliceAt.max bi)) aN) ?_))))
   rintro cV cW ⟨b0, rfl, ac, b1, b2⟩
   refine ⟨_, rfl, ?_⟩
   have Y := (am.c0 ac).t2
   refine wl_nil (qe_held (listed' := #[true, true, true, true, true, true, true, true, true, true, true, true, true, true, true, true, true, true, true, true, true, true, true, true, true, true, true, false, false, false, true, false, false]) rfl ⟨⟨Y.hasK ((c.le.trans T.le).trans ac.le), Y.hasObj m0⟩, (fun _ => trivial), by decide⟩ (wg_val (i := 27) (listed' := #[true, true, true, true, true, true, true, true, true, true, true, true, true, true, true, true, true, true, true, true, true, true, true, true, true, true, true, true, false, false, true, false, false]) (fun _ => True) rfl (by kernel_rfl) (pk_then (pk_then pk_body)) (by kernel_rfl) rfl (by kernel_rfl) (by kernel_rfl) rfl (.inl fun _ _ => trivial) ⟨⟨Y.hasK ((c.le.trans T.le).trans ac.le), Y.hasObj m0⟩, (fun _ => trivial), by decide⟩ wn rfl (fun _ _ => (rv_move rfl)) ?_))
   refine wg_val (i := 28) (listed' := #[true, true, true, true, true, true, true, true, true, true, true, true, true, true, true, true, true, true, true, true, true, true, true, true, true, true, true, true, true, false, true, false, false]) (fun _ => True) rfl (by kernel_rfl) (pk_then (pk_then pk_body)) (by kernel_rfl) rfl (by kernel_rfl) (by kernel_rfl) rfl (.inl fun _ _ => trivial) ⟨⟨Y.hasK ((c.le.trans T.le).trans ac.le), Y.hasObj m0⟩, (fun _ => trivial), by decide⟩ wn rfl (fun _ _ => (rv_extract rfl rfl)) (wg_val (i := 29) (listed' := #[true, true, true, true, true, true, true, true, true, true, true, true, true, true, true, true, true, true, true, true, true, true, true, true, true, true, true, true, true, true, true, false, false]) (fun _ => True) rfl (by kernel_rfl) (pk_then (pk_then pk_body)) (by kernel_rfl) rfl (by kernel_rfl) (by kernel_rfl) rfl (.inl fun _ _ => trivial) ⟨⟨Y.hasK ((c.le.trans T.le).trans ac.le), Y.hasObj m0⟩, (fun _ => trivial), by decide⟩ wn rfl (fun _ _ => (rv_extract rfl rfl)) (wg_one (i := 31) (by kernel_rfl) rfl (ls [.int .i64 C.1.Up, .int .i64 C.1.Down] (.agg #[.int .i64 C.1.Up, .int .i64 C.1.Down]) tf92 Y.f1 fun cX aB => ?_)))
   refine wl_nil (qe_held (listed' := #[true, true, true, true, true, true, true, true, true, true, true, true, true, true, true, true, true, true, true, true, true, true, true, true, true, true, true, true, true, true, true, true, false]) rfl ⟨⟨aB.hasK ((c.le.trans T.le).trans ac.le), aB.hasObj m1⟩, (fun _ => trivial), by decide⟩ (wg_val (i := 32) (listed' := #[true, true, true, true, true, true, true, true, true, true, true, true, true, true, true, true, true, true, true, true, true, true, true, true, true, true, true, true, true, true, true, true, true]) (fun _ => True) rfl (by kernel_rfl) (pk_then (pk_then pk_body)) (by kernel_rfl) rfl (by kernel_rfl) (by kernel_rfl) rfl (.inl fun _ _ => trivial) ⟨⟨aB.hasK ((c.le.trans T.le).trans ac.le), aB.hasObj m1⟩, (fun _ => trivial), by decide⟩ wn rfl (fun _ _ => (rv_assign rfl)) (wg_done (by kernel_rfl) ?_)))
   obtain rfl := oi aO
   exact qd ⟨bg, b0, rfl, aB, ((c.le.trans T.le).trans ac.le), b1, b2⟩
  refine al tf92 a fun bj cY b3 => ?_
  have a3 : SH _ _ _ _ _ [obj bj [.int .i64 0, .int .i64 0] 92, _] := b3
  refine wl_nil (qe_held (listed' := #[true, true, true, true, true, true, true, true, true, true, true, false, true, true, true, true, true, true, true, true, true, true, true, true, false, false, false, false, false, false, true, false, false]) rfl ⟨⟨a3.hasK (KLe.refl _), a3.hasObj m1⟩, (fun _ => trivial), by decide⟩ (wg_one (i := 11) (by kernel_rfl) rfl ?_))
  have bk := a3.f1
  refine lc (vs := [.pointer (some ⟨g1, 2, none⟩), .agg #[.slice f k m, .slice o q s], sv p1_field, .int .i64 p3_id]) co96 ((ok_impl_Seg_long__ofGScorer1 F) bk.e1 (O.mono (b.le.trans d)) (R.mono (b.le.trans d)) (I.mono (b.le.trans d)) (ae.mono (b.le.trans d)) (O.mono (b.le.trans d)) (R.mono (b.le.trans d)) af aR bd) ?_
  rintro cZ c0 ⟨c1, rfl, J, b4⟩
  refine ⟨_, rfl, ?_⟩
  have aQ := (bk.c1 J).t2
  refine wl_nil (qe_held (listed' := #[true, true, true, true, true, true, true, true, true, true, true, true, true, true, true, true, true, true, true, true, true, true, true, true, false, false, false, false, false, false, true, false, false]) rfl ⟨⟨aQ.hasK J.le, aQ.hasObj m0⟩, (fun _ => trivial), by decide⟩ (wg_one (i := 24) (by kernel_rfl) rfl (lc (vs := [.pointer (some ⟨g1, 2, none⟩), sv p1_field, sv p2_term]) co44 ((ok_impl_Seg_posts__ofGScorer1 F) aQ.e1 (O.mono ((b.le.trans d).trans J.le)) (R.mono ((b.le.trans d).trans J.le)) (I.mono ((b.le.trans d).trans J.le)) (ae.mono ((b.le.trans d).trans J.le)) af aD aX) ?_)))
  rintro c2 c3 ⟨c5, c6, c7, c9, rfl, U, bl⟩
  refine ⟨_, rfl, ?_⟩
  have an := (aQ.c1 U).t2
  refine wl_nil (qe_held (listed' := #[true, true, true, true, true, true, true, true, true, true, true, true, true, true, true, true, true, true, true, true, true, true, true, true, true, false, false, false, false, false, true, false, false]) rfl ⟨⟨an.hasK (J.le.trans U.le), an.hasObj m0⟩, (fun _ => trivial), by decide⟩ (wg_val (i := 25) (listed' := #[true, true, true, true, true, true, true, true, true, true, true, true, true, true, true, true, true, true, true, true, true, true, true, true, true, true, false, false, false, false, true, false, false]) (fun _ => True) rfl (by kernel_rfl) (pk_then (pk_then pk_body)) (by kernel_rfl) rfl (by kernel_rfl) (by kernel_rfl) rfl (.inl fun _ _ => trivial) ⟨⟨an.hasK (J.le.trans U.le), an.hasObj m0⟩, (fun _ => trivial), by decide⟩ wn rfl (fun _ _ => (rv_len (t := tGPost) underlying37 rfl bl)) (wg_one (i := 26) (by kernel_rfl) rfl (lc (vs := [.int .i64 (aE.length : Int), .int .i64 aL, .int .i64 ai, .int .i64 (p0_x.s_.Docs.length : Int), .int .i64 (aM.length : Int)]) co46 ((ok_impl_TermScore F) an.enter0 (rng_nat (SliceAt.max (ah.mono d))) b4 aK (rng_nat (SliceAt.max (I.mono (b.le.trans d)))) (rng_nat (SliceAt.max bl)) aN) ?_))))
  rintro da db ⟨b5, rfl, ad, b6, b7⟩
  refine ⟨_, rfl, ?_⟩
  have Z := (an.c0 ad).t2
  refine wl_nil (qe_held (listed' := #[true, true, true, true, true, true, true, true, true, true, true, true, true, true, true, true, true, true, true, true, true, true, true, true, true, true, true, false, false, false, true, false, false]) rfl ⟨⟨Z.hasK ((J.le.trans U.le).trans ad.le), Z.hasObj m0⟩, (fun _ => trivial), by decide⟩ (wg_val (i := 27) (listed' := #[true, true, true, true, true, true, true, true, true, true, true, true, true, true, true, true, true, true, true, true, true, true, true, true, true, true, true, true, false, false, true, false, false]) (fun _ => True) rfl (by kernel_rfl) (pk_then (pk_then pk_body)) (by kernel_rfl) rfl (by kernel_rfl) (by kernel_rfl) rfl (.inl fun _ _ => trivial) ⟨⟨Z.hasK ((J.le.trans U.le).trans ad.le), Z.hasObj m0⟩, (fun _ => trivial), by decide⟩ wn rfl (fun _ _ => (rv_move rfl)) ?_))
  refine wg_val (i := 28) (listed' := #[true, true, true, true, true, true, true, true, true, true, true, true, true, true, true, true, true, true, true, true, true, true, true, true, true, true, true, true, true, false, true, false, false]) (fun _ => True) rfl (by kernel_rfl) (pk_then (pk_then pk_body)) (by kernel_rfl) rfl (by kernel_rfl) (by kernel_rfl) rfl (.inl fun _ _ => trivial) ⟨⟨Z.hasK ((J.le.trans U.le).trans ad.le), Z.hasObj m0⟩, (fun _ => trivial), by decide⟩ wn rfl (fun _ _ => (rv_extract rfl rfl)) (wg_val (i := 29) (listed' := #[true, true, true, true, true, true, true, true, true, true, true, true, true, true, true, true, true, true, true, true, true, true, true, true, true, true, true, true, true, true, true, false, false]) (fun _ => True) rfl (by kernel_rfl) (pk_then (pk_then pk_body)) (by kernel_rfl) rfl (by kernel_rfl) (by kernel_rfl) rfl (.inl fun _ _ => trivial) ⟨⟨Z.hasK ((J.le.trans U.le).trans ad.le), Z.hasObj m0⟩, (fun _ => trivial), by decide⟩ wn rfl (fun _ _ => (rv_extract rfl rfl)) (wg_one (i := 31) (by kernel_rfl) rfl (ls [.int .i64 C.1.Up, .int .i64 C.1.Down] (.agg #[.int .i64 C.1.Up, .int .i64 C.1.Down]) tf92 Z.f1 fun dc aC => ?_)))
  refine wl_nil (qe_held (listed' := #[true, true, true, true, true, true, true, true, true, true, true, true, true, true, true, true, true, true, true, true, true, true, true, true, true, true, true, true, true, true, true, true, false]) rfl ⟨⟨aC.hasK ((J.le.trans U.le).trans ad.le), aC.hasObj m1⟩, (fun _ => trivial), by decide⟩ (wg_val (i := 32) (listed' := #[true, true, true, true, true, true, true, true, true, true, true, true, true, true, true, true, true, true, true, true, true, true, true, true, true, true, true, true, true, true, true, true, true]) (fun _ => True) rfl (by kernel_rfl) (pk_then (pk_then pk_body)) (by kernel_rfl) rfl (by kernel_rfl) (by kernel_rfl) rfl (.inl fun _ _ => trivial) ⟨⟨aC.hasK ((J.le.trans U.le).trans ad.le), aC.hasObj m1⟩, (fun _ => trivial), by decide⟩ wn rfl (fun _ _ => (rv_assign rfl)) (wg_done (by kernel_rfl) ?_)))
  obtain rfl := oi aO
  exact qd ⟨bj, b5, rfl, aC, ((J.le.trans U.le).trans ad.le), b6, b7⟩
 rintro _ dd ⟨aV, aW, rfl, a4, de, b8, b9⟩
 refine qr (lv (rv_loadmS (ds := [.int .i64 aa.Up, .int .i64 aa.Down]) tf92 rfl m0 a4 rfl rfl) ?_)
 obtain ⟨df, ca, cb⟩ := ob bO
 refine lc (vs := [.agg #[.int .i64 aa.Up, .int .i64 aa.Down], .int .i64 1000]) co47 ((ok_impl_RatFloor F) a4.enter0 b8 b9 (by decide : rng64 1000) ca) ?_
 rintro dg dh ⟨cc, rfl, cd, ce⟩
 refine ⟨_, rfl, ?_⟩
 have cf := (a4.c0 cd).t2
 refine av rfl (nq (wc_ret ?_))
 obtain rfl := oi cb
 have cg := cf.sb (sd (sk sz))
 exact er results70 ⟨rfl, trivial⟩ ⟨cc, rfl, cg, ce⟩

set_option maxHeartbeats 2000000 in
theorem ok_impl_scorer_bounds (F : Nat) {w : World} {K : KMap} {g1 : Nat} {f : Option Addr} {i k : Nat} {l : Option Addr} {m o : Nat} {q : Option Addr} {s x : Nat} {y : Option Addr} {A B : Nat} {p0_x : GScorer} {p1_field : Str} {p2_term : Str} {r : (List GBlock)} (hS : SH w K (List.flatMap Item.gs [obj g1 [.slice f i k, .slice l m o, .slice q s x, .slice y A B] 80]) w K [obj g1 [.slice f i k, .slice l m o, .slice q s x, .slice y A B] 80]) (aw : SliceAt tStr K f i k p0_x.c_.Stops) (ax : SliceAt tGSyn K l m o p0_x.c_.Syns) (ay : SliceAt tGDoc K q s x p0_x.s_.Docs) (az : SliceAt tGEntry K y A B p0_x.s_.Entries) (aA : p1_field.length ≤ maxLen) (aB : p2_term.length ≤ maxLen) (hm : M.impl_scorer_bounds F p0_x p1_field p2_term = some r) :
  Calls Tryz.prog 37 #[.pointer (some ⟨g1, 0, none⟩), sv p1_field, sv p2_term] w fun e w' => ∃ a_1 n_2 c_3 K', e = .returned (.slice a_1 n_2 c_3) ∧ SH w K (List.flatMap Item.gs [obj g1 [.slice f i k, .slice l m o, .slice q s x, .slice y A B] 80]) w' K' [tail (.slice a_1 n_2 c_3) 45 2, obj g1 [.slice f i k, .slice l m o, .slice q s x, .slice y A B] 80] ∧ SliceAt tGBlock K' a_1 n_2 c_3 r := by
 rw [M.impl_scorer_bounds] at hm
 refine calls_in func37 rfl ntmps37 rfl (sr (lv (rv_assign (v := .slice none 0 0) rfl) (nr (wl_buildSlice0R tGBlock wn rfl underlying33 tf45 hS fun aN bM aO => (av rfl (nsr (mv rfl (lv (rv_nilCheck rfl) (fa ff80_1 rfl ?_)))))))))
 refine mv rfl (mv rfl ?_)
 obtain ⟨aC, aP, aQ⟩ := ob hm
 have aD := aO.f1
 refine lc (vs := [.pointer (some ⟨g1, 2, none⟩), sv p1_field, sv p2_term]) co44 ((ok_impl_Seg_posts__ofGScorer1 F) aD.e1 aw ax ay az aA aB aP) ?_
 rintro bN bO ⟨aE, aF, aG, am, rfl, S, an⟩
 refine ⟨_, rfl, ?_⟩
 have aR := (aD.c1 S).t2
 refine lv (rv_len (t := tGPost) underlying37 rfl an) (lv (rv_move (v := .int .i64 0) rfl) (nq ?_))
 obtain ⟨aH, aS, aT⟩ := ob aQ
 refine wc_cutg (fun E' w' => ∃ ab T ac cs46 ad, E' = [(0, pt g1), (7, .slice ab T ac)] ∧ SH w K (List.flatMap Item.gs [obj g1 [.slice f i k, .slice l m o, .slice q s x, .slice y A B] 80]) w' ad [obj g1 [.slice f i k, .slice l m o, .slice q s x, .slice y A B] 80, rowI (.slice ab T ac) cs46 45 2] ∧ KLe am ad ∧ RowAt true tGBlock ad cs46 aH ∧ T = aH.length) ?_ ?_
 ·refine wc_block ?_
  obtain ⟨bP, aU, aV⟩ := ob aS
  refine qF (fun (ao : Nat) (ae : (List GBlock)) E' w' => ∃ H G I cs61 C, E' = [(0, pt g1), (1, sv p1_field), (2, sv p2_term), (7, .slice H G I), (17, .slice aE aF aG), (18, .int .i64 (aC.length : Int)), (19, .int .i64 ((ao : Nat) : Int))] ∧ SH w K (List.flatMap Item.gs [obj g1 [.slice f i k, .slice l m o, .slice q s x, .slice y A B] 80]) w' C [obj g1 [.slice f i k, .slice l m o, .slice q s x, .slice y A B] 80, rowI (.slice H G I) cs61 45 2] ∧ KLe am C ∧ RowAt true tGBlock C cs61 ae ∧ G = ae.length) aU ⟨aN, 0, 0, [], am, rfl, aR, (KLe.refl _), (RowAt.nil tGBlock _), rfl⟩ ?_ ?_
  ·rintro ao ae _ aW bQ hi65 aX ⟨H, G, I, cs61, C, rfl, af, D, hrow62, hm63⟩
   refine sr (lv (rv_lss rfl rfl) (ns (wc_cond_t rfl (decide_eq_true (by omega)) (wc_skip (qe_seq (wc_seq (wc_block (sr (mv rfl ?_)))))))))
   obtain ⟨a, aY, aZ⟩ := ob aX
   refine li underlying37 tf42 (an.mono D) aY fun a0 a1 bR a3 a4 => ?_
   obtain ⟨J, O, R, rfl, aI, bS⟩ := a3
   have a5 : AtK _ a0 a1 [.int .i64 a.Doc, .slice J O R] := a4
   refine lv (rv_loadS (cs := [.int .i64 a.Doc, .slice J O R]) tf42 rfl af a5 rfl) (al tf42 af fun ag bT a7 => ?_)
   have a8 : SH _ _ _ _ _ [obj ag [.int .i64 0, .slice none 0 0] 42, _, _] := a7
   refine av rfl (ls [.int .i64 a.Doc, .slice J O R] (.agg #[.int .i64 a.Doc, .slice J O R]) tf42 a8 fun bU aJ => (nsr (mv rfl ?_)))
   obtain ⟨bV, a9, ba⟩ := ob aZ
   refine lv (rv_rem rfl rfl a9) (lv (rv_eql rfl rfl) (nq ?_))
   obtain ⟨U, bb, bc⟩ := ob ba
   refine wc_cutg (fun E' w' => ∃ V W ah cs101 X, E' = [(0, pt g1), (1, sv p1_field), (2, sv p2_term), (7, .slice V W ah), (9, pt ag), (17, .slice aE aF aG), (18, .int .i64 (aC.length : Int)), (19, .int .i64 ((ao : Nat) : Int))] ∧ SH w K (List.flatMap Item.gs [obj g1 [.slice f i k, .slice l m o, .slice q s x, .slice y A B] 80]) w' X [obj g1 [.slice f i k, .slice l m o, .slice q s x, .slice y A B] 80, obj ag [.int .i64 a.Doc, .slice J O R] 42, rowI (.slice V W ah) cs101 45 2] ∧ KLe C X ∧ RowAt true tGBlock X cs101 U ∧ W = U.length) ?_ ?_
   ·refine wcc bb rfl (fun bd ap => ?_) (fun bd ap => ?_)
    ·refine wc_region (mv rfl (lv (rv_build (cs := #[.int .i64 0, .int .i64 0]) sp45 tf45 rfl (by kernel_rfl)) (lb tGBlock (.agg #[.int .i64 0, .int .i64 0]) [.int .i64 0, .int .i64 0] (GBlock.mk (0 : Int) (0 : Int)) underlying33 tf45 ⟨rfl, (by decide : rng64 0), (by decide : rng64 0)⟩ aJ fun bW bX be aK bf bg => ?_)))
     obtain ⟨bY, bh, bi⟩ := ob ap
     refine wl_appendR (t := tGBlock) wn rfl underlying33 tf45 rfl rfl rfl rfl (RowAt.mono aK hrow62) hm63 bf bh bg.f3 fun bj bk bl cs119 bZ hrow121 hm122 bm => (av rfl (wl_nil ?_))
     obtain rfl := oi bi
     have bn := bm.f2.f3.sb (sk (sk (sk (sd sz))))
     exact qd ⟨bj, bk, bl, cs119, be, rfl, bn, aK, hrow121, hm122⟩
    refine wc_skip ?_
    obtain rfl := oi ap
    exact qd ⟨H, G, I, cs61, C, rfl, aJ.f2.f1.f2, (KLe.refl _), hrow62, hm63⟩
   rintro _ b0 ⟨V, W, ah, cs101, X, rfl, aq, Y, hrow102, hm103⟩
   refine qr (mv rfl (mv rfl (lv (rv_lenRow underlying33 rfl hm103) (lv (rv_sub rfl rfl) ?_))))
   obtain ⟨b, Z, bo⟩ := ob bc
   obtain ⟨b1, ai⟩ := SH.rowI_at aq m2 hm103 Z
   obtain ⟨b2, bp, bq⟩ := RowAt.at hrow102 Z
   obtain ⟨rfl, b3, br⟩ := bp
   have bs : ∀ (j : Nat) (d : Value), [.int .i64 b.Last, .int .i64 b.Most][j]? = some d → cs101[(w64 ((U.length : Int) - (1 : Int))).toNat * tGBlock.size + j]? = some d := bq
   refine lv (rv_indexI (t := tGBlock) underlying33 tf45 rfl rfl ai hm103 Z) (av rfl (nr (mv rfl (fa ff42_0 rfl (lv (rv_loadm1 tf3 rfl m1 aq rfl) (lv (rv_nilCheck rfl) (fa ff45_0 rfl (wl_storeI (t := tGBlock) (off := 0) (ds := [.int .i64 b.Last, .int .i64 b.Most]) (v := .int .i64 a.Doc) (u := .agg #[.int .i64 a.Doc, .int .i64 b.Most]) (e := (GBlock.mk a.Doc b.Most)) wn tf3 rfl rfl rfl rfl (by simp [Value.cells, Value.oneCell']) ai aq.f2 hrow102 hm103 Z bs rfl rfl ⟨rfl, aI, br⟩ fun cs142 b4 hrow144 hm145 bt => ?_))))))))
   have ar := getI_set (e := (GBlock.mk a.Doc b.Most)) Z
   obtain ⟨b5, bu, bv⟩ := RowAt.at hrow144 ar
   obtain ⟨rfl, bw, bx⟩ := bu
   have aL : ∀ (j : Nat) (d : Value), [.int .i64 ((GBlock.mk a.Doc b.Most).Last), .int .i64 ((GBlock.mk a.Doc b.Most).Most)][j]? = some d → cs142[(w64 ((U.length : Int) - (1 : Int))).toNat * tGBlock.size + j]? = some d := bv
   refine nq ?_
   have aj := bt.drew
   refine wh1 (fun w' => Holds X w' ∧ HasObj ag [.int .i64 a.Doc, .slice J O R] w') (fun w' => HasRow V cs142 w') 14 [(4, 11), (4, 12), (4, 13), (4, 14), (11, 12), (11, 13), (11, 14), (12, 13), (13, 14)] mixed ⟨aj.hasK (KLe.refl _), aj.hasObj m2⟩ (fun _ => aj.hasRow (.head _)) (gt (rv_move rfl) (gt (rv_move rfl) (gt (rv_nilCheck rfl) (gt (rv_fieldAddr ff45_1 rfl) (gf (fun _ h => (rh_loadI1 tf3 rfl rfl (aL 1 _ rfl) ai h)) (gt (rv_move rfl) (gt (rv_move rfl) (gt (rv_move rfl) (gt (rv_fieldAddr ff42_0 rfl) ?_)))))))))
   refine gh (fun _ h => rh_loadm1 tf3 rfl rfl h.2) (gn ?_)
   obtain ⟨c, bz, bA⟩ := ob bo
   have aM := aj.f1
   refine lc (vs := [pt g1, sv p1_field, sv p2_term, .int .i64 a.Doc]) co70 ((ok_impl_scorer_points F) aM.e1 (aw.mono ((S.le.trans D).trans Y)) (ax.mono ((S.le.trans D).trans Y)) (ay.mono ((S.le.trans D).trans Y)) (az.mono ((S.le.trans D).trans Y)) aA aB aI bz) ?_
   rintro b6 b7 ⟨bB, rfl, aa, bC⟩
   refine ⟨_, rfl, ?_⟩
   have ak := (aM.c1 aa).t3
   refine wl_nil (qh ⟨ak.hasK aa.le, ak.hasObj m2⟩ (fun _ => ak.hasRow (.tail _ (.head _))) (gt (rv_max2 rfl rfl) (gt (rv_nilCheck rfl) (gt (rv_fieldAddr ff45_1 rfl) (gn (wl_storeI (t := tGBlock) (off := 1) (ds := [.int .i64 ((GBlock.mk a.Doc b.Most).Last), .int .i64 ((GBlock.mk a.Doc b.Most).Most)]) (v := .int .i64 (if c > (GBlock.mk a.Doc b.Most).Most then c else (GBlock.mk a.Doc b.Most).Most)) (u := .agg #[.int .i64 ((GBlock.mk a.Doc b.Most).Last), .int .i64 (if c > (GBlock.mk a.Doc b.Most).Most then c else (GBlock.mk a.Doc b.Most).Most)]) (e := (GBlock.mk (GBlock.mk a.Doc b.Most).Last (if c > (GBlock.mk a.Doc b.Most).Most then c else (GBlock.mk a.Doc b.Most).Most))) wn tf3 rfl rfl rfl rfl (by simp [Value.cells, Value.oneCell']) ai ak.f1 (RowAt.mono aa.le hrow144) hm145 ar aL rfl rfl ⟨rfl, bw, (rng_max bx bC)⟩ fun cs167 b8 hrow169 hm170 au => ?_))))))
   have bD := getI_set (e := (GBlock.mk (GBlock.mk a.Doc b.Most).Last (if c > (GBlock.mk a.Doc b.Most).Most then c else (GBlock.mk a.Doc b.Most).Most))) ar
   obtain ⟨b9, bE, bF⟩ := RowAt.at hrow169 bD
   obtain ⟨rfl, ca, cb⟩ := bE
   have cc : ∀ (j : Nat) (d : Value), [.int .i64 ((GBlock.mk (GBlock.mk a.Doc b.Most).Last (if c > (GBlock.mk a.Doc b.Most).Most then c else (GBlock.mk a.Doc b.Most).Most)).Last), .int .i64 ((GBlock.mk (GBlock.mk a.Doc b.Most).Last (if c > (GBlock.mk a.Doc b.Most).Most then c else (GBlock.mk a.Doc b.Most).Most)).Most)][j]? = some d → cs167[(w64 ((U.length : Int) - (1 : Int))).toNat * tGBlock.size + j]? = some d := bF
   refine wl_nil (qh ⟨au.hasK aa.le, au.hasObj m2⟩ (fun h => nomatch h) (gd' (qe_block (qg (lv (rv_add_to rfl rfl (w64_succ hi65 (SliceAt.max an))) (mv rfl (wl_nil ?_)))))))
   obtain rfl := oi bA
   have bG := au.f1.sb (sk (sk (sd sz)))
   exact qd ⟨V, W, ah, cs167, bB, rfl, bG, ((D.trans Y).trans aa.le), hrow169, hm170⟩
  rintro ae _ aW bH ⟨H, G, I, cs61, C, rfl, af, D, hrow62, hm63⟩
  subst bH
  refine sr (lv (rv_lss rfl rfl) (ns (wc_cond_f rfl (decide_eq_false (by omega)) (wc_exit (qe_then_exit (qe_then_exit (qe_block_eq ?_)))))))
  obtain rfl := oi aV
  exact qd ⟨H, G, I, cs61, C, rfl, af, D, hrow62, hm63⟩
 rintro _ cd ⟨ab, T, ac, cs46, ad, rfl, bI, ce, hrow47, hm48⟩
 refine qr (mv rfl (av rfl (nq (wc_ret ?_))))
 obtain ⟨bJ, cf, bK, bL⟩ := SH.freezeI bI.f1 hrow47 hm48
 obtain rfl := oi aT
 exact er results37 ⟨rfl, trivial⟩ ⟨ab, T, ac, bJ, rfl, bL, bK⟩

theorem ok_cmp_isNaN_int (F : Nat) {w : World} {K : KMap} {p0_x : Int} {r : Bool} (hS : SH w K [] w K []) (a : rng64 p0_x) (hm : M.cmp_isNaN_int F p0_x = some r) :
  Calls Tryz.prog 156 #[.int .i64 p0_x] w fun e w' => ∃ K', e = .returned (.bool r) ∧ SH w K [] w' K' [] := by
 rw [M.cmp_isNaN_int] at hm
 refine calls_in func156 rfl ntmps156 rfl (sr (lv (rv_assign (v := .bool false) rfl) (nr (mv rfl (mv rfl (lv (rv_neq rfl rfl) (av rfl (nq (wc_ret ?_)))))))))
 obtain rfl := oi hm
 exact er results156 ⟨rfl, trivial⟩ ⟨K, rfl, hS⟩

theorem ok_cmp_Compare_int (F : Nat) {w : World} {K : KMap} {p0_x : Int} {p1_y : Int} {r : Int} (hS : SH w K [] w K []) (m : rng64 p0_x) (o : rng64 p1_y) (hm : M.cmp_Compare_int F p0_x p1_y = some r) :
  Calls Tryz.prog 110 #[.int .i64 p0_x, .int .i64 p1_y] w fun e w' => ∃ K', e = .returned (.int .i64 r) ∧ SH w K [] w' K' [] ∧ rng64 r := by
 rw [M.cmp_Compare_int] at hm
 refine calls_in func110 rfl ntmps110 rfl (sr (lv (rv_assign (v := .int .i64 0) rfl) (nr (mv rfl ?_))))
 obtain ⟨J, q, s⟩ := ob hm
 refine lc (vs := [.int .i64 p0_x]) co156 ((ok_cmp_isNaN_int F) hS.enter0 m q) ?_
 rintro O R ⟨S, rfl, x⟩
 refine ⟨_, rfl, ?_⟩
 have l := (hS.c0 x).t0
 refine av rfl (nr (mv rfl ?_))
 obtain ⟨T, y, A⟩ := ob s
 refine lc (vs := [.int .i64 p1_y]) co156 ((ok_cmp_isNaN_int F) l.enter0 o y) ?_
 rintro U V ⟨a, rfl, B⟩
 refine ⟨_, rfl, ?_⟩
 have b := (l.c0 B).t0
 refine av rfl (nsr (mv rfl (nq (wcc A rfl (fun C c => ?_) (fun C c => ?_)))))
 ·refine wc_seq (sr (mv rfl (nq (wcc c rfl (fun D d => ?_) (fun D d => ?_)))))
  ·refine sr (lv (rv_assign (v := .int .i64 0) rfl) (nq (rr (qe_then_ret ?_))))
   obtain rfl := oi d
   exact er results110 ⟨rfl, trivial⟩ ⟨a, rfl, b, (by decide : rng64 0)⟩
  refine wc_skip (qr (lv (rv_assign (v := .int .i64 (-1)) rfl) (nq (rr ?_))))
  obtain rfl := oi d
  exact er results110 ⟨rfl, trivial⟩ ⟨a, rfl, b, (by decide : rng64 (-1))⟩
 refine wc_skip (qs (sr (mv rfl (nq (wcc c rfl (fun G f => ?_) (fun G f => ?_))))))
 ·refine sr (lv (rv_assign (v := .int .i64 1) rfl) (nq (rr ?_)))
  obtain rfl := oi f
  exact er results110 ⟨rfl, trivial⟩ ⟨a, rfl, b, (by decide : rng64 1)⟩
 refine wc_skip (qs (sr (mv rfl (mv rfl (lv (rv_lss rfl rfl) (nq (wcc f rfl (fun H i => ?_) (fun H i => ?_))))))))
 ·refine sr (lv (rv_assign (v := .int .i64 (-1)) rfl) (nq (rr ?_)))
  obtain rfl := oi i
  exact er results110 ⟨rfl, trivial⟩ ⟨a, rfl, b, (by decide : rng64 (-1))⟩
 refine wc_skip (qs (sr (mv rfl (mv rfl (lv (rv_gtr rfl rfl) (nq (wcc i rfl (fun I k => ?_) (fun I k => ?_))))))))
 ·refine sr (lv (rv_assign (v := .int .i64 1) rfl) (nq (rr ?_)))
  obtain rfl := oi k
  exact er results110 ⟨rfl, trivial⟩ ⟨a, rfl, b, (by decide : rng64 1)⟩
 refine wc_skip (qr (lv (rv_assign (v := .int .i64 0) rfl) (nq (wc_ret ?_))))
 obtain rfl := oi k
 exact er results110 ⟨rfl, trivial⟩ ⟨a, rfl, b, (by decide : rng64 0)⟩

theorem ok_impl_hitOrder (F : Nat) {w : World} {K : KMap} {p0_a : GHit} {p1_b : GHit} {r : Int} (hS : SH w K [] w K []) (A : rng64 p0_a.Doc) (B : rng64 p0_a.Points) (C : rng64 p1_b.Doc) (D : rng64 p1_b.Points) (hm : M.impl_hitOrder F p0_a p1_b = some r) :
  Calls Tryz.prog 130 #[.agg #[.int .i64 p0_a.Doc, .int .i64 p0_a.Points], .agg #[.int .i64 p1_b.Doc, .int .i64 p1_b.Points]] w fun e w' => ∃ K', e = .returned (.int .i64 r) ∧ SH w K [] w' K' [] ∧ rng64 r := by
 rw [M.impl_hitOrder] at hm
 refine calls_in func130 rfl ntmps130 rfl (sr (bx rfl hS fun o w6 G => ?_))
 have H : SH _ _ _ _ _ [obj o [.int .i64 p0_a.Doc, .int .i64 p0_a.Points] 124] := G
 refine bx rfl H fun q ae I => ?_
 have J : SH _ _ _ _ _ [obj q [.int .i64 p1_b.Doc, .int .i64 p1_b.Points] 124, _] := I
 refine lv (rv_assign (v := .int .i64 0) rfl) (ns (wc_held (fun w' => Holds K w' ∧ HasObj q [.int .i64 p1_b.Doc, .int .i64 p1_b.Points] w' ∧ HasObj o [.int .i64 p0_a.Doc, .int .i64 p0_a.Points] w') (fun w' => True) 13 [] mixed ?_))
 have a := J.drew
 refine wg_val (i := 0) (listed' := #[true, false, false, false, false, false, false, false, false, false, false, false, false]) (fun _ => True) rfl (by kernel_rfl) (pk_then pk_body) (by kernel_rfl) rfl (by kernel_rfl) (by kernel_rfl) rfl (.inl fun _ _ => trivial) ⟨⟨a.hasK (KLe.refl _), a.hasObj m0, a.hasObj m1⟩, (fun _ => trivial), by decide⟩ wn rfl (fun _ _ => (rv_fieldAddr ff124_1 rfl)) (wg_val (i := 1) (listed' := #[true, true, false, false, false, false, false, false, false, false, false, false, false]) (HasObj q [.int .i64 p1_b.Doc, .int .i64 p1_b.Points]) rfl (by kernel_rfl) (pk_then pk_body) (by kernel_rfl) rfl (by kernel_rfl) (by kernel_rfl) rfl (.inl fun _ h => h.2.1) ⟨⟨a.hasK (KLe.refl _), a.hasObj m0, a.hasObj m1⟩, (fun _ => trivial), by decide⟩ wn rfl (fun _ h => rh_loadm1 tf3 rfl rfl h) (wg_val (i := 2) (listed' := #[true, true, true, false, false, false, false, false, false, false, false, false, false]) (fun _ => True) rfl (by kernel_rfl) (pk_then pk_body) (by kernel_rfl) rfl (by kernel_rfl) (by kernel_rfl) rfl (.inl fun _ _ => trivial) ⟨⟨a.hasK (KLe.refl _), a.hasObj m0, a.hasObj m1⟩, (fun _ => trivial), by decide⟩ wn rfl (fun _ _ => (rv_fieldAddr ff124_1 rfl)) ?_))
 refine wg_val (i := 3) (listed' := #[true, true, true, true, false, false, false, false, false, false, false, false, false]) (HasObj o [.int .i64 p0_a.Doc, .int .i64 p0_a.Points]) rfl (by kernel_rfl) (pk_then pk_body) (by kernel_rfl) rfl (by kernel_rfl) (by kernel_rfl) rfl (.inl fun _ h => h.2.2) ⟨⟨a.hasK (KLe.refl _), a.hasObj m0, a.hasObj m1⟩, (fun _ => trivial), by decide⟩ wn rfl (fun _ h => rh_loadm1 tf3 rfl rfl h) (wg_val (i := 5) (listed' := #[true, true, true, true, false, true, false, false, false, false, false, false, false]) (fun _ => True) rfl (by kernel_rfl) (pk_then pk_body) (by kernel_rfl) rfl (by kernel_rfl) (by kernel_rfl) rfl (.inl fun _ _ => trivial) ⟨⟨a.hasK (KLe.refl _), a.hasObj m0, a.hasObj m1⟩, (fun _ => trivial), by decide⟩ wn rfl (fun _ _ => (rv_fieldAddr ff124_0 rfl)) (wg_val (i := 6) (listed' := #[true, true, true, true, false, true, true, false, false, false, false, false, false]) (HasObj o [.int .i64 p0_a.Doc, .int .i64 p0_a.Points]) rfl (by kernel_rfl) (pk_then pk_body) (by kernel_rfl) rfl (by kernel_rfl) (by kernel_rfl) rfl (.inl fun _ h => h.2.2) ⟨⟨a.hasK (KLe.refl _), a.hasObj m0, a.hasObj m1⟩, (fun _ => trivial), by decide⟩ wn rfl (fun _ h => rh_loadm1 tf3 rfl rfl h) ?_))
 refine wg_val (i := 7) (listed' := #[true, true, true, true, false, true, true, true, false, false, false, false, false]) (fun _ => True) rfl (by kernel_rfl) (pk_then pk_body) (by kernel_rfl) rfl (by kernel_rfl) (by kernel_rfl) rfl (.inl fun _ _ => trivial) ⟨⟨a.hasK (KLe.refl _), a.hasObj m0, a.hasObj m1⟩, (fun _ => trivial), by decide⟩ wn rfl (fun _ _ => (rv_fieldAddr ff124_0 rfl)) (wg_val (i := 8) (listed' := #[true, true, true, true, false, true, true, true, true, false, false, false, false]) (HasObj q [.int .i64 p1_b.Doc, .int .i64 p1_b.Points]) rfl (by kernel_rfl) (pk_then pk_body) (by kernel_rfl) rfl (by kernel_rfl) (by kernel_rfl) rfl (.inl fun _ h => h.2.1) ⟨⟨a.hasK (KLe.refl _), a.hasObj m0, a.hasObj m1⟩, (fun _ => trivial), by decide⟩ wn rfl (fun _ h => rh_loadm1 tf3 rfl rfl h) (wg_one (i := 4) (by kernel_rfl) rfl ?_))
 obtain ⟨d, O, R⟩ := ob hm
 refine lc (vs := [.int .i64 p1_b.Points, .int .i64 p0_a.Points]) co110 ((ok_cmp_Compare_int F) a.enter0 D B O) ?_
 rintro af ag ⟨ah, rfl, c, S⟩
 refine ⟨_, rfl, ?_⟩
 have f := (a.c0 c).t2
 refine wl_nil (qe_held (listed' := #[true, true, true, true, true, true, true, true, true, false, false, false, false]) rfl ⟨⟨f.hasK c.le, f.hasObj m0, f.hasObj m1⟩, (fun _ => trivial), by decide⟩ (wg_one (i := 9) (by kernel_rfl) rfl ?_))
 obtain ⟨k, T, U⟩ := ob R
 refine lc (vs := [.int .i64 p0_a.Doc, .int .i64 p1_b.Doc]) co110 ((ok_cmp_Compare_int F) f.enter0 A C T) ?_
 rintro ai aj ⟨ak, rfl, l, V⟩
 refine ⟨_, rfl, ?_⟩
 have s := (f.c0 l).t2
 refine wl_nil (qe_held (listed' := #[true, true, true, true, true, true, true, true, true, true, false, false, false]) rfl ⟨⟨s.hasK (c.le.trans l.le), s.hasObj m0, s.hasObj m1⟩, (fun _ => trivial), by decide⟩ (wg_one (i := 10) (by kernel_rfl) rfl (wl_buildSlice (t := tInt) (n := 2) (pv := [(0, .int .i64 d), (1, .int .i64 k)]) (cs := [.int .i64 d, .int .i64 k]) (xs := [d, k]) wn rfl underlying39 tf3 rfl rfl rfl (by kernel_rfl) rfl rfl (lit_cons (u := .int .i64 d) (z := d) ⟨rfl, S⟩ (lit_cons (u := .int .i64 k) (z := k) ⟨rfl, V⟩ lit_nil)) s fun W al am x X m => (wl_nil (qe_held (listed' := #[true, true, true, true, true, true, true, true, true, true, true, false, false]) rfl ⟨⟨m.hasK ((c.le.trans l.le).trans x), m.hasObj m1, m.hasObj m2⟩, (fun _ => trivial), by decide⟩ (wg_one (i := 11) (by kernel_rfl) rfl ?_))))))
 obtain ⟨an, Y, Z⟩ := ob U
 refine lc (vs := [.slice W 2 2]) co92 ((ok_cmp_Or_int F) m.enter0 X Y) ?_
 rintro ao ap ⟨aa, rfl, y, ab⟩
 refine ⟨_, rfl, ?_⟩
 have b := (m.c0 y).t3
 refine wl_nil (qe_held (listed' := #[true, true, true, true, true, true, true, true, true, true, true, true, false]) rfl ⟨⟨b.hasK (((c.le.trans l.le).trans x).trans y.le), b.hasObj m1, b.hasObj m2⟩, (fun _ => trivial), by decide⟩ (wg_val (i := 12) (listed' := #[true, true, true, true, true, true, true, true, true, true, true, true, true]) (fun _ => True) rfl (by kernel_rfl) (pk_then pk_body) (by kernel_rfl) rfl (by kernel_rfl) (by kernel_rfl) rfl (.inl fun _ _ => trivial) ⟨⟨b.hasK (((c.le.trans l.le).trans x).trans y.le), b.hasObj m1, b.hasObj m2⟩, (fun _ => trivial), by decide⟩ wn rfl (fun _ _ => (rv_assign rfl)) (wg_done (by kernel_rfl) (qe_seq (wc_ret ?_)))))
 obtain rfl := oi Z
 have ac := b.sb (sd (sd (sd sz)))
 exact er results130 ⟨rfl, trivial⟩ ⟨aa, rfl, ac, ab⟩

theorem ok_impl_firstHits (F : Nat) {w : World} {K : KMap} {c : Option Addr} {d f : Nat} {p0_list : List GHit} {p1_most : Int} {r : (List GHit)} (hS : SH w K [] w K []) (l : SliceAt tGHit K c d f p0_list) (an : rng64 p1_most) (hm : M.impl_firstHits F p0_list p1_most = some r) :
  Calls Tryz.prog 81 #[.slice c d f, .int .i64 p1_most] w fun e w' => ∃ a_1 n_2 c_3 K', e = .returned (.slice a_1 n_2 c_3) ∧ SH w K [] w' K' [tail (.slice a_1 n_2 c_3) 124 2] ∧ SliceAt tGHit K' a_1 n_2 c_3 r := by
 rw [M.impl_firstHits] at hm
 refine calls_in func81 rfl ntmps81 rfl (sr (lv (rv_assign (v := .slice none 0 0) rfl) (nr (b0 tGHit underlying57 tf124 hS fun a6 w7 K8 m o q => (mv rfl ?_)))))
 obtain ⟨ar, s, A⟩ := ob hm
 refine lp underlying57 tf124 o (l.mono m) s q fun B C D au aw ax G H => (av rfl (nr (mv rfl ?_)))
 obtain ⟨ay, I, J⟩ := ob A
 refine wl_call wn rfl (rt_call (vs := [.slice B C D, .func (.func 130) #[] #[]]) co129 rfl) (sort_call (T := tGHit) sortLay129 sortNone129 rfl (fun w => Go.Fk.run_isAgg tf124 w) (fun w => Go.Fk.run_sizeOf tf124 w) (fun a b => M.impl_hitOrder F a b) 130 (Go.Proofs.enters_of func130 (by kernel_rfl) rfl) H hS.holds (fun b hb => by cases hb) G (fun _ _ _ _ _ h => h) (fun K1 W v x u y r hW O R hm => by
  obtain ⟨rfl, S, U⟩ := O
  obtain ⟨rfl, V, X⟩ := R
  exact (ok_impl_hitOrder F (SH.start hW) S U V X hm).mono fun e w' ⟨K', he, hS', _⟩ => ⟨K', he, hS'⟩) I) ?_
 rintro aA aB ⟨aC, rfl, Y, i⟩
 refine ⟨_, rfl, ?_⟩
 refine nr (b0 tGHit underlying57 tf124 Y fun aD aE aF k Z aa => (mv rfl (mv rfl (lv (rv_len (t := tGHit) underlying57 rfl (i.mono k)) (mv rfl (lv (rv_min2 rfl rfl) ?_))))))
 obtain ⟨aG, ab, ac⟩ := ob J
 refine wl_sl_h (t := tGHit) wn rfl underlying57 tf124 rfl rfl (i.mono k) ab fun aH aI aJ ad => ?_
 obtain ⟨aK, ae, af⟩ := ob ac
 refine lp underlying57 tf124 Z ad ae aa fun ag ah ai aL aj aM ak al => (av rfl (nq (wc_ret ?_)))
 obtain rfl := oi af
 have am := al.sb (sk (sd sz))
 exact er results81 ⟨rfl, trivial⟩ ⟨ag, ah, ai, aj, rfl, am, ak⟩

theorem ok_impl_hasDoc_1 (F : Nat) {w : World} {K : KMap} {a : Nat} {p0_h : GHit} {p1_x : Int} {r : Bool} (hS : SH w K (List.flatMap Item.gs [obj a [.int .i64 p1_x] 3]) w K [obj a [.int .i64 p1_x] 3]) (i : rng64 p0_h.Doc) (k : rng64 p0_h.Points) (l : rng64 p1_x) (hm : M.impl_hasDoc_1 F p0_h p1_x = some r) :
  Calls Tryz.prog 160 #[.agg #[.int .i64 p0_h.Doc, .int .i64 p0_h.Points], .pointer (some ⟨a, 0, none⟩)] w fun e w' => ∃ K', e = .returned (.bool r) ∧ SH w K (List.flatMap Item.gs [obj a [.int .i64 p1_x] 3]) w' K' [obj a [.int .i64 p1_x] 3] := by
 rw [M.impl_hasDoc_1] at hm
 refine calls_in func160 rfl ntmps160 rfl (sr (bx rfl hS fun c m d => ?_))
 have b : SH _ _ _ _ _ [obj c [.int .i64 p0_h.Doc, .int .i64 p0_h.Points] 124, _] := d
 refine lv (rv_assign (v := .bool false) rfl) (nr (fa ff124_0 rfl (lv (rv_loadm1 tf3 rfl m0 b rfl) (lv (rv_loadm1 tf3 rfl m1 b rfl) (lv (rv_eql rfl rfl) (av rfl (nq (wc_ret ?_))))))))
 obtain rfl := oi hm
 have f := b.sb (sd (sk sz))
 exact er results160 ⟨rfl, trivial⟩ ⟨K, rfl, f⟩

theorem ok_slices_IndexFunc_Hit__impl_hasDoc_1 (F : Nat) {w : World} {K : KMap} {m : Option Addr} {o q : Nat} {a : Nat} {p0_s : List GHit} {p1_f_c0 : Int} {r : Int} (hS : SH w K (List.flatMap Item.gs [obj a [.int .i64 p1_f_c0] 3]) w K [obj a [.int .i64 p1_f_c0] 3]) (f : SliceAt tGHit K m o q p0_s) (H : rng64 p1_f_c0) (hm : M.slices_IndexFunc_Hit__impl_hasDoc_1 F p0_s p1_f_c0 = some r) :
  Calls Tryz.prog 197 #[.slice m o q, .func (.func 160) #[] #[.pointer (some ⟨a, 0, none⟩)]] w fun e w' => ∃ K', e = .returned (.int .i64 r) ∧ SH w K (List.flatMap Item.gs [obj a [.int .i64 p1_f_c0] 3]) w' K' [obj a [.int .i64 p1_f_c0] 3] ∧ rng64 r := by
 rw [M.slices_IndexFunc_Hit__impl_hasDoc_1] at hm
 refine calls_in func197 rfl ntmps197 rfl (sr (lv (rv_assign (v := .int .i64 0) rfl) (nsr (mv rfl (lv (rv_len (t := tGHit) underlying57 rfl f) (lv (rv_move (v := .int .i64 0) rfl) (nq ?_)))))))
 obtain ⟨I, J, i⟩ := ob hm
 refine wc_cutg (fun E' w' => ∃ x k, I = .inl x ∧ E' = [] ∧ SH w K (List.flatMap Item.gs [obj a [.int .i64 p1_f_c0] 3]) w' k [obj a [.int .i64 p1_f_c0] 3] ∧ KLe K k) ?_ ?_
 ·refine wc_block ?_
  obtain ⟨aj, O, y⟩ := ob J
  refine qf (fun (A : Nat) (B : Unit) E' w' => ∃ c, E' = [(0, .slice m o q), (1, .func (.func 160) #[] #[pt a]), (7, .int .i64 (p0_s.length : Int)), (8, .int .i64 ((A : Nat) : Int))] ∧ SH w K (List.flatMap Item.gs [obj a [.int .i64 p1_f_c0] 3]) w' c [obj a [.int .i64 p1_f_c0] 3] ∧ KLe K c) O ⟨K, rfl, hS, (KLe.refl _)⟩ ?_ ?_
  ·rintro A B _ R ak hi25 S T ⟨c, rfl, d, l⟩
   refine sr (lv (rv_lss rfl rfl) (ns (wc_cond_t rfl (decide_eq_true (by omega)) (wc_skip (qe_seq (wc_seq (wc_block (sr (mv rfl (av rfl (nr (mv rfl ?_))))))))))))
   refine mv rfl (mv rfl ?_)
   obtain ⟨b, U, V⟩ := ob S
   refine li underlying57 tf124 (f.mono l) U fun W X al Y Z => ?_
   obtain ⟨rfl, aa, ab⟩ := Y
   have ac : AtK _ W X [.int .i64 b.Doc, .int .i64 b.Points] := Z
   refine lv (rv_loadS (cs := [.int .i64 b.Doc, .int .i64 b.Points]) tf124 rfl d ac rfl) ?_
   obtain ⟨am, ad, ae⟩ := ob V
   refine wl_call wn rfl (rt_callv (vs := [.agg #[.int .i64 b.Doc, .int .i64 b.Points]]) (cap := #[pt a]) co160 rfl rfl) ((ok_impl_hasDoc_1 F) d.e1 aa ab H ad) ?_
   rintro an ao ⟨C, rfl, D⟩
   refine ⟨_, rfl, ?_⟩
   have G := (d.c1 D).t1
   refine nq (wcc ae rfl (fun af s => ?_) (fun af s => ?_))
   ·refine sr (mv rfl (av rfl (nq (wc_ret (qe_block_ret (qe_then_ret (qe_then_ret ?_)))))))
    obtain rfl := oi s
    have ag := T _ rfl
    subst ag
    refine qe_block_ret (qe_then_ret ?_)
    obtain rfl := oi y
    refine qe_then_ret ?_
    obtain rfl := oi i
    exact er results197 ⟨rfl, trivial⟩ ⟨C, rfl, G, (rng_idx hi25 (SliceAt.max f))⟩
   refine wc_skip (qe_block (qg (lv (rv_add_to rfl rfl (w64_succ hi25 (SliceAt.max f))) (mv rfl (wl_nil ?_)))))
   obtain rfl := oi s
   exact qd ⟨_, rfl, C, rfl, G, (l.trans D.le)⟩
  rintro B _ R ah ⟨c, rfl, d, l⟩
  subst ah
  refine sr (lv (rv_lss rfl rfl) (ns (wc_cond_f rfl (decide_eq_false (by omega)) (wc_exit (qe_then_exit (qe_then_exit (qe_block_eq ?_)))))))
  obtain rfl := oi y
  exact qe_mid' ⟨_, c, rfl, rfl, d, l⟩ trivial
 rintro _ ap ⟨x, k, rfl, rfl, ai, aq⟩
 have i := elim_l i
 refine qr (lv (rv_assign (v := .int .i64 (-1)) rfl) (nq (wc_ret ?_)))
 obtain rfl := oi i
 exact er results197 ⟨rfl, trivial⟩ ⟨k, rfl, ai, (by decide : rng64 (-1))⟩

theorem ok_slices_ContainsFunc_Hit__impl_hasDoc_1 (F : Nat) {w : World} {K : KMap} {b : Option Addr} {c d : Nat} {a : Nat} {p0_s : List GHit} {p1_f_c0 : Int} {r : Bool} (hS : SH w K (List.flatMap Item.gs [obj a [.int .i64 p1_f_c0] 3]) w K [obj a [.int .i64 p1_f_c0] 3]) (f : SliceAt tGHit K b c d p0_s) (i : rng64 p1_f_c0) (hm : M.slices_ContainsFunc_Hit__impl_hasDoc_1 F p0_s p1_f_c0 = some r) :
  Calls Tryz.prog 159 #[.slice b c d, .func (.func 160) #[] #[.pointer (some ⟨a, 0, none⟩)]] w fun e w' => ∃ K', e = .returned (.bool r) ∧ SH w K (List.flatMap Item.gs [obj a [.int .i64 p1_f_c0] 3]) w' K' [obj a [.int .i64 p1_f_c0] 3] := by
 rw [M.slices_ContainsFunc_Hit__impl_hasDoc_1] at hm
 refine calls_in func159 rfl ntmps159 rfl (sr (lv (rv_assign (v := .bool false) rfl) (nr (mv rfl (mv rfl ?_)))))
 obtain ⟨s, k, l⟩ := ob hm
 refine lc (vs := [.slice b c d, .func (.func 160) #[] #[pt a]]) co197 ((ok_slices_IndexFunc_Hit__impl_hasDoc_1 F) hS.e1 f i k) ?_
 rintro x y ⟨m, rfl, o, A⟩
 refine ⟨_, rfl, ?_⟩
 have q := (hS.c1 o).t1
 refine lv (rv_geq rfl rfl) (av rfl (nq (wc_ret ?_)))
 obtain rfl := oi l
 exact er results159 ⟨rfl, trivial⟩ ⟨m, rfl, q⟩

theorem ok_impl_hasDoc (F : Nat) {w : World} {K : KMap} {a : Option Addr} {b c : Nat} {p0_list : List GHit} {p1_id : Int} {r : Bool} (hS : SH w K [] w K []) (i : SliceAt tGHit K a b c p0_list) (k : rng64 p1_id) (hm : M.impl_hasDoc F p0_list p1_id = some r) :
  Calls Tryz.prog 116 #[.slice a b c, .int .i64 p1_id] w fun e w' => ∃ K', e = .returned (.bool r) ∧ SH w K [] w' K' [] := by
 rw [M.impl_hasDoc] at hm
 refine calls_in func116 rfl ntmps116 rfl (sr (bx rfl hS fun d A l => ?_))
 have f : SH _ _ _ _ _ [obj d [.int .i64 p1_id] 3] := l
 refine lv (rv_assign (v := .bool false) rfl) (nr (mv rfl (lv (rv_makeFunc (vs := [pt d]) rfl) ?_)))
 obtain ⟨B, m, o⟩ := ob hm
 refine lc (vs := [.slice a b c, .func (.func 160) #[] #[pt d]]) co159 ((ok_slices_ContainsFunc_Hit__impl_hasDoc_1 F) f.e1 i k m) ?_
 rintro C D ⟨q, rfl, s⟩
 refine ⟨_, rfl, ?_⟩
 have x := (f.c1 s).t1
 refine av rfl (nq (wc_ret ?_))
 obtain rfl := oi o
 have y := x.sb (sd sz)
 exact er results116 ⟨rfl, trivial⟩ ⟨q, rfl, y⟩

set_option maxHeartbeats 2000000 in
theorem ok_impl_HitsOk (F : Nat) {w : World} {K : KMap} {i : Option Addr} {k l : Nat} {p0_list : List GHit} {r : Bool} (hS : SH w K [] w K []) (m : SliceAt tGHit K i k l p0_list) (hm : M.impl_HitsOk F p0_list = some r) :
  Calls Tryz.prog 115 #[.slice i k l] w fun e w' => ∃ K', e = .returned (.bool r) ∧ SH w K [] w' K' [] := by
 rw [M.impl_HitsOk] at hm
 refine calls_in func115 rfl ntmps115 rfl (sr (lv (rv_assign (v := .bool false) rfl) (nsr (mv rfl (lv (rv_len (t := tGHit) underlying57 rfl m) (lv (rv_move (v := .int .i64 0) rfl) (nq ?_)))))))
 obtain ⟨o5, h6, y⟩ := ob hm
 refine wc_cutg (fun E' w' => ∃ R A, o5 = .inl R ∧ E' = [(0, .slice i k l)] ∧ SH w K [] w' A [] ∧ KLe K A) ?_ ?_
 ·refine wc_block ?_
  obtain ⟨bp, ak, S⟩ := ob h6
  refine qf (fun (B : Nat) (T : Unit) E' w' => ∃ o, E' = [(0, .slice i k l), (5, .slice i k l), (6, .int .i64 (p0_list.length : Int)), (7, .int .i64 ((B : Nat) : Int))] ∧ SH w K [] w' o [] ∧ KLe K o) ak ⟨K, rfl, hS, (KLe.refl _)⟩ ?_ ?_
  ·rintro B T _ am bq hi23 an ao ⟨o, rfl, C, q⟩
   refine sr (lv (rv_lss rfl rfl) (ns (wc_cond_t rfl (decide_eq_true (by omega)) (wc_skip (qe_seq (wc_seq (wc_block (sr (mv rfl ?_)))))))))
   obtain ⟨c, ap, aq⟩ := ob an
   refine li underlying57 tf124 (m.mono q) ap fun ar au br aw ax => ?_
   obtain ⟨rfl, D, U⟩ := aw
   have ay : AtK _ ar au [.int .i64 c.Doc, .int .i64 c.Points] := ax
   refine lv (rv_loadS (cs := [.int .i64 c.Doc, .int .i64 c.Points]) tf124 rfl C ay rfl) (al tf124 C fun az bs aA => ?_)
   have aB : SH _ _ _ _ _ [obj az [.int .i64 0, .int .i64 0] 124] := aA
   refine av rfl (ls [.int .i64 c.Doc, .int .i64 c.Points] (.agg #[.int .i64 c.Doc, .int .i64 c.Points]) tf124 aB fun bt V => (ns ?_))
   obtain ⟨aC, aD, aE⟩ := ob aq
   refine wc_cutg (fun E' w' => ∃ x, E' = [(0, .slice i k l), (5, .slice i k l), (6, .int .i64 (p0_list.length : Int)), (7, .int .i64 ((B : Nat) : Int)), (42, .bool aC)] ∧ SH w K [] w' x [] ∧ KLe o x) ?_ ?_
   ·refine wc_quiet mixed (by kernel_rfl) V (kv (rv_fieldAddr ff124_0 rfl) (kh (rq_loadm1 tf3 rfl m0 rfl) ?_))
    obtain ⟨W, aF, X⟩ := ob aD
    refine wq_call (v := .bool W) wn rfl (fun _ => rt_call (vs := [.int .i64 c.Doc, .int .i64 1, .int .i64 9999]) co55 rfl) (fun bu ⟨bv, Y, aG⟩ => ((ok_impl_within F) Y.enter0 D (by decide : rng64 1) (by decide : rng64 9999) aF).mono fun e w' ⟨K', he, hS'⟩ => ⟨he, K', Y.call0 hS', aG.trans hS'.le⟩) (kv (rv_not rfl) (km rfl ?_))
    rcases bool_tf ((!W)) with f | f
    ·have G := cond_t f X
     refine kn f (kn f (kn f (kv (rv_pick_t (v := .bool true) rfl f rfl) (km rfl (qv rfl rfl rfl rfl (qv rfl rfl rfl rfl (qv rfl rfl rfl rfl (qv rfl rfl rfl rfl (qv rfl rfl rfl rfl ?_)))))))))
     refine qv rfl rfl rfl rfl (kv (rv_pick_t (v := .bool true) rfl rfl rfl) (km rfl (qv rfl rfl rfl rfl (qv rfl rfl rfl rfl (qv rfl rfl rfl rfl (ku (ku (ku (ku ?_)))))))))
     refine ku (ku (ku (ku (qv rfl rfl rfl rfl (kv (rv_pick_t (v := .bool true) rfl rfl rfl) (wq_nil ?_))))))
     rintro bw ⟨aH, aI, aJ⟩
     obtain rfl := oi G
     have aK := aI.sb (sd sz)
     exact qd ⟨aH, rfl, aK, aJ⟩
    have G := cond_f f X
    refine kg f (rv_fieldAddr ff124_1 rfl) (kgh f (rq_loadm1 tf3 rfl m0 rfl) (kg f (rv_lss rfl rfl) (kv (rv_pick_f rfl f rfl) (km rfl ?_))))
    rcases bool_tf (decide (c.Points < (1 : Int))) with b | b
    ·have I := cond_t b G
     refine kn b (kn b (kn b (kn b (kn b (kn b (kv (rv_pick_t (v := .bool true) rfl b rfl) (km rfl (qv rfl rfl rfl rfl (qv rfl rfl rfl rfl ?_)))))))))
     refine qv rfl rfl rfl rfl (ku (ku (ku (ku (ku (ku (ku (ku (qv rfl rfl rfl rfl ?_)))))))))
     refine kv (rv_pick_t (v := .bool true) rfl rfl rfl) (wq_nil ?_)
     rintro bx ⟨aL, aM, aN⟩
     obtain rfl := oi I
     have aO := aM.sb (sd sz)
     exact qd ⟨aL, rfl, aO, aN⟩
    have I := cond_f b G
    refine kg b (rv_move rfl) (kg b (rv_move rfl) ?_)
    obtain ⟨bz, aP, aQ⟩ := ob I
    refine wq_sl_h (t := tGHit) (wg rfl rfl b) rfl underlying57 tf124 rfl rfl (m.mono q) aP fun aR aS aT aU => (kg b (rv_fieldAddr ff124_0 rfl) (kgh b (rq_loadm1 tf3 rfl m0 rfl) ?_))
    obtain ⟨Z, aV, aa⟩ := ob aQ
    refine wq_call (v := .bool Z) (wg rfl rfl b) rfl (fun _ => rt_call (vs := [.slice aR aS aT, .int .i64 c.Doc]) co116 rfl) (fun bA ⟨bB, ab, ac⟩ => ((ok_impl_hasDoc F) ab.enter0 (aU.mono ac) D aV).mono fun e w' ⟨K', he, hS'⟩ => ⟨he, K', ab.call0 hS', ac.trans hS'.le⟩) (kv (rv_pick_f rfl b rfl) (km rfl ?_))
    rcases bool_tf (Z) with d | d
    ·have H := cond_t d aa
     refine kn d (kn d (kn d (ku (ku (ku (ku (ku (ku (ku ?_)))))))))
     refine ku (kn d (kv (rv_pick_t (v := .bool true) rfl d rfl) (wq_nil ?_)))
     rintro bC ⟨aW, aX, aY⟩
     obtain rfl := oi H
     have aZ := aX.sb (sd sz)
     exact qd ⟨aW, rfl, aZ, aY⟩
    have H := cond_f d aa
    refine kg d (rv_move rfl) (kg d (rv_gtr rfl rfl) (kg d (rv_move rfl) ?_))
    rcases bool_tf (decide ((0 : Int) < ((B : Nat) : Int))) with a | a
    ·have J := cond_t a H
     refine kg a (rv_move rfl) (kg a (rv_move rfl) (kg a (rv_sub rfl rfl) ?_))
     obtain ⟨s, a0, a2⟩ := ob J
     refine wq_indexAddr (t := tGHit) (wg rfl rfl a) rfl underlying57 tf124 rfl rfl (m.mono q) a0 fun a3 a4 bD a5 a6 => ?_
     obtain ⟨rfl, ad, ae⟩ := a5
     have a7 : AtK _ a3 a4 [.int .i64 s.Doc, .int .i64 s.Points] := a6
     refine kgh a (rq_loadS (cs := [.int .i64 s.Doc, .int .i64 s.Points]) tf124 rfl a7 rfl) (kgh a (rq_loadmS (ds := [.int .i64 c.Doc, .int .i64 c.Points]) tf124 rfl m0 rfl rfl) ?_)
     obtain ⟨a8, af, a9⟩ := ob a2
     refine wq_call (v := .int .i64 a8) (wg rfl rfl a) rfl (fun _ => rt_call (vs := [.agg #[.int .i64 s.Doc, .int .i64 s.Points], .agg #[.int .i64 c.Doc, .int .i64 c.Points]]) co130 rfl) (fun bE ⟨bF, ag, ba⟩ => ((ok_impl_hitOrder F) ag.enter0 ad ae D U af).mono fun e w' ⟨K', he, hS', _⟩ => ⟨he, K', ag.call0 hS', ba.trans hS'.le⟩) ?_
     obtain ⟨_, _, _, ⟨_, _, _, bG⟩, _⟩ := (ok_impl_hitOrder F) V.enter0 ad ae D U af []
     refine kg a (rv_geq rfl rfl) (kg d (rv_pick_t rfl a rfl) (kv (rv_pick_f rfl d rfl) (wq_nil ?_)))
     rintro bH ⟨bb, bc, bd⟩
     obtain rfl := oi a9
     have be := bc.sb (sd sz)
     exact qd ⟨bb, rfl, be, bd⟩
    have J := cond_f a H
    refine kn a (kn a (kn a (kn a (kn a (kn a (kn a (kn a (kg d (rv_pick_f (v := .bool false) rfl a rfl) (kv (rv_pick_f rfl d rfl) ?_)))))))))
    refine wq_nil ?_
    rintro bI ⟨bf, bg, bh⟩
    obtain rfl := oi J
    have bi := bg.sb (sd sz)
    exact qd ⟨bf, rfl, bi, bh⟩
   rintro _ bJ ⟨x, rfl, ah, bj⟩
   refine qe_seq (wcc aE rfl (fun bk O => ?_) (fun bk O => ?_))
   ·refine sr (lv (rv_assign (v := .bool false) rfl) (nq (wc_ret (qe_block_ret (qe_then_ret (qe_then_ret ?_))))))
    obtain rfl := oi O
    have bl := ao _ rfl
    subst bl
    refine qe_block_ret (qe_then_ret ?_)
    obtain rfl := oi S
    refine qe_then_ret ?_
    obtain rfl := oi y
    exact er results115 ⟨rfl, trivial⟩ ⟨x, rfl, ah⟩
   refine wc_skip (qe_block (qg (lv (rv_add_to rfl rfl (w64_succ hi23 (SliceAt.max m))) (mv rfl (wl_nil ?_)))))
   obtain rfl := oi O
   exact qd ⟨_, rfl, x, rfl, ah, (q.trans bj)⟩
  rintro T _ am bm ⟨o, rfl, C, q⟩
  subst bm
  refine sr (lv (rv_lss rfl rfl) (ns (wc_cond_f rfl (decide_eq_false (by omega)) (wc_exit (qe_then_exit (qe_then_exit (qe_block_eq ?_)))))))
  obtain rfl := oi S
  exact qd ⟨_, o, rfl, rfl, C, q⟩
 rintro _ bK ⟨R, A, rfl, rfl, bn, bo⟩
 have y := elim_l y
 refine qr (mv rfl (lv (rv_len (t := tGHit) underlying57 rfl (m.mono bo)) (lv (rv_leq rfl rfl) (av rfl (nq (wc_ret ?_))))))
 obtain rfl := oi y
 exact er results115 ⟨rfl, trivial⟩ ⟨A, rfl, bn⟩

set_option maxHeartbeats 2000000 in
theorem ok_impl_TopPush (F : Nat) {w : World} {K : KMap} {f : Option Addr} {i k : Nat} {p0_list : List GHit} {p1_h : GHit} {p2_most : Int} {r : (List GHit)} (hS : SH w K [] w K []) (o : SliceAt tGHit K f i k p0_list) (A : rng64 p1_h.Doc) (an : rng64 p1_h.Points) (Y : rng64 p2_most) (hm : M.impl_TopPush F p0_list p1_h p2_most = some r) :
  Calls Tryz.prog 71 #[.slice f i k, .agg #[.int .i64 p1_h.Doc, .int .i64 p1_h.Points], .int .i64 p2_most] w fun e w' => ∃ a_1 n_2 c_3 K', e = .returned (.slice a_1 n_2 c_3) ∧ SH w K [] w' K' [tail (.slice a_1 n_2 c_3) 124 2] ∧ SliceAt tGHit K' a_1 n_2 c_3 r := by
 rw [M.impl_TopPush] at hm
 refine calls_in func71 rfl ntmps71 rfl (sr (bx rfl hS fun l w9 ao => ?_))
 have Z : SH _ _ _ _ _ [obj l [.int .i64 p1_h.Doc, .int .i64 p1_h.Points] 124] := ao
 refine lv (rv_assign (v := .slice none 0 0) rfl) (ns (wc_seq ?_))
 obtain ⟨ap, aq, ar⟩ := ob hm
 refine wc_cutg (fun E' w' => ∃ B, E' = [(0, .slice f i k), (2, .int .i64 p2_most), (4, pt l), (21, .bool ap)] ∧ SH w K [] w' B [obj l [.int .i64 p1_h.Doc, .int .i64 p1_h.Points] 124] ∧ KLe K B) ?_ ?_
 ·refine wc_region (mv rfl ?_)
  obtain ⟨au, aw, aa⟩ := ob aq
  refine lc (vs := [.slice f i k]) co115 ((ok_impl_HitsOk F) Z.enter0 o aw) ?_
  rintro bh bi ⟨ax, rfl, m⟩
  refine ⟨_, rfl, ?_⟩
  have C := (Z.c0 m).t1
  refine lv (rv_not rfl) (mv rfl ?_)
  rcases bool_tf ((!au)) with c | c
  ·have D := cond_t c aa
   refine lu c (lu c (lu c (lv (rv_pick_t (v := .bool true) rfl c rfl) (mv rfl (lu rfl (lu rfl (lu rfl (lu rfl (lv (rv_pick_t (v := .bool true) rfl rfl rfl) ?_)))))))))
   refine wl_nil ?_
   obtain rfl := oi D
   exact qd ⟨ax, rfl, C, m.le⟩
  have D := cond_f c aa
  refine lg c (rv_move rfl) ?_
  obtain ⟨ay, az, ab⟩ := ob D
  refine wl_call (wg rfl rfl c) rfl (rt_call (vs := [.int .i64 p2_most, .int .i64 1, .int .i64 16]) co55 rfl) ((ok_impl_within F) C.enter0 Y (by decide : rng64 1) (by decide : rng64 16) az) ?_
  rintro bj bk ⟨ac, rfl, q⟩
  refine ⟨_, rfl, ?_⟩
  have ad := (C.c0 q).t1
  refine lg c (rv_not rfl) (lv (rv_pick_f rfl c rfl) (mv rfl ?_))
  rcases bool_tf ((!ay)) with a | a
  ·have G := cond_t a ab
   refine lu a (lu a (lu a (lu a (lv (rv_pick_t (v := .bool true) rfl a rfl) (wl_nil ?_)))))
   obtain rfl := oi G
   exact qd ⟨ac, rfl, ad, (m.le.trans q.le)⟩
  have G := cond_f a ab
  refine lg a (rv_move rfl) (lg a (rv_len (t := tGHit) underlying57 rfl (o.mono (m.le.trans q.le))) (lg a (rv_move rfl) (lg a (rv_gtr rfl rfl) (lv (rv_pick_f rfl a rfl) (wl_nil ?_)))))
  obtain rfl := oi G
  exact qd ⟨ac, rfl, ad, (m.le.trans q.le)⟩
 rintro _ bl ⟨B, rfl, ae, af⟩
 refine qe_seq (wcc ar rfl (fun aA H => ?_) (fun aA H => ?_))
 ·refine sr (b0 tGHit underlying57 tf124 ae fun aB bm aC bn aD aE => (av rfl (nq (rr ?_))))
  obtain rfl := oi H
  have aF := aE.sb (sk (sd sz))
  exact er results71 ⟨rfl, trivial⟩ ⟨aB, 0, 0, aC, rfl, aF, aD⟩
 refine wc_skip (qr (b0 tGHit underlying57 tf124 ae fun bo bp bq ag aG aH => (mv rfl ?_)))
 obtain ⟨br, aI, aJ⟩ := ob H
 refine lp underlying57 tf124 aG (o.mono (af.trans ag)) aI aH fun I J O bs aK aL ah R => (av rfl (ns (wc_seq ?_)))
 obtain ⟨aM, aN, aO⟩ := ob aJ
 refine wc_cutg (fun E' w' => ∃ s, E' = [(2, .int .i64 p2_most), (4, pt l), (7, .slice I J O), (40, .bool aM)] ∧ SH w K [] w' s [obj l [.int .i64 p1_h.Doc, .int .i64 p1_h.Points] 124, tail (.slice I J O) 124 2] ∧ KLe aK s) ?_ ?_
 ·refine wc_region (mv rfl (fa ff124_0 rfl (lv (rv_loadm1 tf3 rfl m1 R rfl) ?_)))
  obtain ⟨aP, aQ, ai⟩ := ob aN
  refine lc (vs := [.slice f i k, .int .i64 p1_h.Doc]) co116 ((ok_impl_hasDoc F) R.enter0 (o.mono ((af.trans ag).trans aL)) A aQ) ?_
  rintro bt bu ⟨aR, rfl, x⟩
  refine ⟨_, rfl, ?_⟩
  have y := (R.c0 x).t2
  refine mv rfl ?_
  rcases bool_tf (aP) with b | b
  ·have S := cond_t b ai
   refine lu b (lu b (lu b (lu b (lv (rv_pick_t (v := .bool true) rfl b rfl) (mv rfl (lu rfl (lu rfl (lu rfl (lv (rv_pick_t (v := .bool true) rfl rfl rfl) ?_)))))))))
   refine wl_nil ?_
   obtain rfl := oi S
   exact qd ⟨aR, rfl, y.f1, x.le⟩
  have S := cond_f b ai
  refine lg b (rv_fieldAddr ff124_0 rfl) (lg b (rv_loadm1 tf3 rfl m1 y rfl) ?_)
  obtain ⟨aS, aT, aj⟩ := ob S
  refine wl_call (wg rfl rfl b) rfl (rt_call (vs := [.int .i64 p1_h.Doc, .int .i64 1, .int .i64 9999]) co55 rfl) ((ok_impl_within F) y.enter0 A (by decide : rng64 1) (by decide : rng64 9999) aT) ?_
  rintro bv bw ⟨ak, rfl, T⟩
  refine ⟨_, rfl, ?_⟩
  have U := (y.c0 T).t2
  refine lg b (rv_not rfl) (lv (rv_pick_f rfl b rfl) (mv rfl ?_))
  rcases bool_tf ((!aS)) with d | d
  ·have V := cond_t d aj
   refine lu d (lu d (lu d (lv (rv_pick_t (v := .bool true) rfl d rfl) (wl_nil ?_))))
   obtain rfl := oi V
   exact qd ⟨ak, rfl, U.f1, (x.le.trans T.le)⟩
  have V := cond_f d aj
  refine lg d (rv_fieldAddr ff124_1 rfl) (lg d (rv_loadm1 tf3 rfl m1 U rfl) (lg d (rv_lss rfl rfl) (lv (rv_pick_f rfl d rfl) (wl_nil ?_))))
  obtain rfl := oi V
  exact qd ⟨ak, rfl, U.f1, (x.le.trans T.le)⟩
 rintro _ bz ⟨s, rfl, W, al⟩
 refine qe_seq (wcc aO rfl (fun aU X => ?_) (fun aU X => ?_))
 ·refine sr (mv rfl (av rfl (nq (rr ?_))))
  obtain rfl := oi X
  have aV := W.sb (sd (sk sz))
  exact er results71 ⟨rfl, trivial⟩ ⟨I, J, O, s, rfl, aV, (ah.mono al)⟩
 refine wc_skip (qr (mv rfl (lv (rv_loadmS (ds := [.int .i64 p1_h.Doc, .int .i64 p1_h.Points]) tf124 rfl m0 W rfl rfl) (lb tGHit (.agg #[.int .i64 p1_h.Doc, .int .i64 p1_h.Points]) [.int .i64 p1_h.Doc, .int .i64 p1_h.Points] p1_h underlying57 tf124 ⟨rfl, A, an⟩ W fun bA bB bC aW aX aY => ?_))))
 obtain ⟨bD, aZ, a0⟩ := ob X
 refine lp underlying57 tf124 (ah.mono (al.trans aW)) aX aZ aY.f2 fun a2 a3 a4 bE bF bG a5 am => (mv rfl ?_)
 obtain ⟨bH, a6, a7⟩ := ob a0
 refine lc (vs := [.slice a2 a3 a4, .int .i64 p2_most]) co81 ((ok_impl_firstHits F) am.enter0 a5 Y a6) ?_
 rintro bI bJ ⟨a8, a9, ba, bb, rfl, bc, bd⟩
 refine ⟨_, rfl, ?_⟩
 have be := (am.c0 bc).t4
 refine av rfl (nq (wc_ret ?_))
 obtain rfl := oi a7
 have bf := be.sb (sk (sd (sd (sd sz))))
 exact er results71 ⟨rfl, trivial⟩ ⟨a8, a9, ba, bb, rfl, bf, bd⟩

set_option maxHeartbeats 2000000 in
theorem ok_impl_BoundTop (F : Nat) {w : World} {K : KMap} {f : Option Addr} {i k : Nat} {l : Option Addr} {m o : Nat} {a : Option Addr} {b c : Nat} {q : Option Addr} {s x : Nat} {aI : Option Addr} {aJ aK : Nat} {p0_c : GConf} {p1_s : GSeg} {p2_field : Str} {p3_words : List Str} {p4_most : Int} {r : (List GHit) × Int} (hS : SH w K [] w K []) (bc : SliceAt tStr K f i k p0_c.Stops) (bd : SliceAt tGSyn K l m o p0_c.Syns) (aq : SliceAt tGDoc K a b c p1_s.Docs) (bs : SliceAt tGEntry K q s x p1_s.Entries) (bt : p2_field.length ≤ maxLen) (aL : SliceAt tStr K aI aJ aK p3_words) (bX : rng64 p4_most) (hm : M.impl_BoundTop F p0_c p1_s p2_field p3_words p4_most = some r) :
  Calls Tryz.prog 26 #[.agg #[.slice f i k, .slice l m o], .agg #[.slice a b c, .slice q s x], sv p2_field, .slice aI aJ aK, .int .i64 p4_most] w fun e w' => ∃ a_1 n_2 c_3 K', e = .returned (.tuple #[.slice a_1 n_2 c_3, .int .i64 r.2]) ∧ SH w K [] w' K' [tail (.slice a_1 n_2 c_3) 124 2] ∧ SliceAt tGHit K' a_1 n_2 c_3 r.1 ∧ rng64 r.2 := by
 rw [M.impl_BoundTop] at hm
 refine calls_in func26 rfl ntmps26 rfl (sr (bx rfl hS fun af fI cC => ?_))
 have cD : SH _ _ _ _ _ [obj af [.slice f i k, .slice l m o] 26] := cC
 refine bx rfl cD fun I fJ cE => ?_
 have be : SH _ _ _ _ _ [obj I [.slice a b c, .slice q s x] 30, _] := cE
 refine lv (rv_assign (v := .slice none 0 0) rfl) (lv (rv_assign (v := .int .i64 0) rfl) (ns ?_))
 obtain ⟨cF, cG, cH⟩ := ob hm
 refine wc_cutg (fun E' w' => ∃ bu, E' = [(2, sv p2_field), (3, .slice aI aJ aK), (4, .int .i64 p4_most), (5, pt af), (6, pt I), (12, .bool cF)] ∧ SH w K [] w' bu [obj af [.slice f i k, .slice l m o] 26, obj I [.slice a b c, .slice q s x] 30] ∧ KLe K bu) ?_ ?_
 ·refine wc_region (lv (rv_loadmS (ds := [.slice f i k, .slice l m o]) tf26 rfl m1 be rfl rfl) (lv (rv_loadmS (ds := [.slice a b c, .slice q s x]) tf30 rfl m0 be rfl rfl) ?_))
  obtain ⟨cI, cJ, bY⟩ := ob cG
  refine lc (vs := [.agg #[.slice f i k, .slice l m o], .agg #[.slice a b c, .slice q s x]]) co12 ((ok_impl_SegOk F) be.enter0 bc bd aq bs cJ) ?_
  rintro fK fL ⟨cK, rfl, ax⟩
  refine ⟨_, rfl, ?_⟩
  have bv := (be.c0 ax).t2
  refine mv rfl ?_
  rcases bool_tf (cI) with ah | ah
  ·have bw := cond_t ah bY
   refine lg ah (rv_move rfl) ?_
   obtain ⟨cL, cM, bZ⟩ := ob bw
   refine wl_call (wg rfl rfl ah) rfl (rt_call (vs := [sv p2_field]) co56 rfl) ((ok_impl_WordOk F) bv.enter0 bt cM) ?_
   rintro fM fN ⟨cN, rfl, aM⟩
   refine ⟨_, rfl, ?_⟩
   have bz := (bv.c0 aM).t2
   refine lv (rv_pick_t rfl ah rfl) (mv rfl ?_)
   rcases bool_tf (cL) with ag | ag
   ·have bA := cond_t ag bZ
    refine lg ag (rv_move rfl) (lg ag (rv_len (t := tStr) underlying23 rfl (aL.mono (ax.le.trans aM.le))) ?_)
    obtain ⟨cO, cP, b1⟩ := ob bA
    refine wl_call (wg rfl rfl ag) rfl (rt_call (vs := [.int .i64 (p3_words.length : Int), .int .i64 1, .int .i64 4]) co55 rfl) ((ok_impl_within F) bz.enter0 (rng_nat (SliceAt.max (aL.mono (ax.le.trans aM.le)))) (by decide : rng64 1) (by decide : rng64 4) cP) ?_
    rintro fO fP ⟨cQ, rfl, bB⟩
    refine ⟨_, rfl, ?_⟩
    have bC := (bz.c0 bB).t2
    refine lv (rv_pick_t rfl ag rfl) (mv rfl ?_)
    rcases bool_tf (cO) with ai | ai
    ·have bD := cond_t ai b1
     refine lg ai (rv_move rfl) ?_
     obtain ⟨fQ, cR, cS⟩ := ob bD
     refine wl_call (wg rfl rfl ai) rfl (rt_call (vs := [.int .i64 p4_most, .int .i64 1, .int .i64 16]) co55 rfl) ((ok_impl_within F) bC.enter0 bX (by decide : rng64 1) (by decide : rng64 16) cR) ?_
     rintro fR fS ⟨cT, rfl, b2⟩
     refine ⟨_, rfl, ?_⟩
     have cU := (bC.c0 b2).t2
     refine lv (rv_pick_t rfl ai rfl) (av rfl (wl_nil ?_))
     obtain rfl := oi cS
     exact qd ⟨cT, rfl, cU.f1, (((ax.le.trans aM.le).trans bB.le).trans b2.le)⟩
    have bD := cond_f ai b1
    refine lu ai (lu ai (lv (rv_pick_f (v := .bool false) rfl ai rfl) (av rfl (wl_nil ?_))))
    obtain rfl := oi bD
    exact qd ⟨cQ, rfl, bC.f1, ((ax.le.trans aM.le).trans bB.le)⟩
   have bA := cond_f ag bZ
   refine lu ag (lu ag (lu ag (lv (rv_pick_f (v := .bool false) rfl ag rfl) (mv rfl (lu rfl (lu rfl (lv (rv_pick_f (v := .bool false) rfl rfl rfl) (av rfl (wl_nil ?_)))))))))
   obtain rfl := oi bA
   exact qd ⟨cN, rfl, bz.f1, (ax.le.trans aM.le)⟩
  have bw := cond_f ah bY
  refine lu ah (lu ah (lv (rv_pick_f (v := .bool false) rfl ah rfl) (mv rfl (lu rfl (lu rfl (lu rfl (lv (rv_pick_f (v := .bool false) rfl rfl rfl) (mv rfl (lu rfl ?_)))))))))
  refine lu rfl (lv (rv_pick_f (v := .bool false) rfl rfl rfl) (av rfl (wl_nil ?_)))
  obtain rfl := oi bw
  exact qd ⟨cK, rfl, bv.f1, ax.le⟩
 rintro _ fT ⟨bu, rfl, cV, y⟩
 refine qr (b0 tStr underlying23 tf9 cV fun cW fU bE A cX cY => (av rfl (nsr (mv rfl (lv (rv_len (t := tStr) underlying23 rfl (aL.mono (y.trans A))) (lv (rv_move (v := .int .i64 0) rfl) (nq ?_)))))))
 obtain ⟨bf, cZ, c0⟩ := ob cH
 refine wc_cutg (fun E' w' => ∃ D G H bg, E' = [(2, sv p2_field), (4, .int .i64 p4_most), (5, pt af), (6, pt I), (12, .bool bf.1), (13, .slice D G H)] ∧ SH w K [] w' bg [obj af [.slice f i k, .slice l m o] 26, obj I [.slice a b c, .slice q s x] 30, tail (.slice D G H) 9 1] ∧ KLe bE bg ∧ SliceAt tStr bg D G H bf.2) ?_ ?_
 ·refine wc_block ?_
  obtain ⟨fV, c1, c2⟩ := ob cZ
  refine qF (fun (bh : Nat) (aX : Bool × (List Str)) E' w' => ∃ X Y Z ar, E' = [(2, sv p2_field), (4, .int .i64 p4_most), (5, pt af), (6, pt I), (12, .bool aX.1), (13, .slice X Y Z), (46, .slice aI aJ aK), (47, .int .i64 (p3_words.length : Int)), (48, .int .i64 ((bh : Nat) : Int))] ∧ SH w K [] w' ar [obj af [.slice f i k, .slice l m o] 26, obj I [.slice a b c, .slice q s x] 30, tail (.slice X Y Z) 9 1] ∧ KLe bE ar ∧ SliceAt tStr ar X Y Z aX.2) c1 ⟨cW, 0, 0, bE, rfl, cY.f2.f2, (KLe.refl _), cX⟩ ?_ ?_
  ·rintro bh aX _ c4 fW hi113 c5 ⟨X, Y, Z, ar, rfl, aN, ay, aY⟩
   refine sr (lv (rv_lss rfl rfl) (ns (wc_cond_t rfl (decide_eq_true (by omega)) (wc_skip (qe_seq (wc_seq (wc_block (sr ?_))))))))
   obtain ⟨bi, c6, c8⟩ := ob c5
   refine li underlying23 tf9 (aL.mono ((y.trans A).trans ay)) c6 fun c9 da fX db dc => ?_
   obtain ⟨rfl, b3⟩ := db
   have dd : AtK _ c9 da [sv bi] := dc
   refine lv (rv_load1 tf9 rfl aN (dd 0 _ rfl)) (av rfl (ns ?_))
   obtain ⟨b4, b5, de⟩ := ob c8
   refine wc_cutg (fun E' w' => ∃ bF, E' = [(2, sv p2_field), (4, .int .i64 p4_most), (5, pt af), (6, pt I), (12, .bool b4), (13, .slice X Y Z), (15, sv bi), (46, .slice aI aJ aK), (47, .int .i64 (p3_words.length : Int)), (48, .int .i64 ((bh : Nat) : Int))] ∧ SH w K [] w' bF [obj af [.slice f i k, .slice l m o] 26, obj I [.slice a b c, .slice q s x] 30, tail (.slice X Y Z) 9 1] ∧ KLe ar bF) ?_ ?_
   ·refine wc_region (mv rfl (mv rfl ?_))
    rcases bool_tf (aX.1) with aj | aj
    ·have bG := cond_t aj b5
     refine lg aj (rv_move rfl) ?_
     obtain ⟨fY, df, dg⟩ := ob bG
     refine wl_call (wg rfl rfl aj) rfl (rt_call (vs := [sv bi]) co56 rfl) ((ok_impl_WordOk F) aN.enter0 b3 df) ?_
     rintro fZ f0 ⟨dh, rfl, b6⟩
     refine ⟨_, rfl, ?_⟩
     have di := (aN.c0 b6).t3
     refine lv (rv_pick_t rfl aj rfl) (av rfl (wl_nil ?_))
     obtain rfl := oi dg
     exact qd ⟨dh, rfl, di, b6.le⟩
    have bG := cond_f aj b5
    refine lu aj (lu aj (lv (rv_pick_f (v := .bool false) rfl aj rfl) (av rfl (wl_nil ?_))))
    obtain rfl := oi bG
    exact qd ⟨ar, rfl, aN, (KLe.refl _)⟩
   rintro _ f1 ⟨bF, rfl, bH, az⟩
   refine qr (lv (rv_loadmS (ds := [.slice f i k, .slice l m o]) tf26 rfl m0 bH rfl rfl) (mv rfl ?_))
   obtain ⟨aO, dj, dk⟩ := ob de
   refine lc (vs := [.agg #[.slice f i k, .slice l m o], sv bi]) co30 ((ok_impl_TermOf F) bH.enter0 (SliceAt.mono (((y.trans A).trans ay).trans az) bc) (SliceAt.mono (((y.trans A).trans ay).trans az) bd) b3 dj) ?_
   rintro f2 f3 ⟨b7, rfl, aP, b8⟩
   refine ⟨_, rfl, ?_⟩
   have bI := (bH.c0 aP).t3
   refine av rfl (ns ?_)
   obtain ⟨dl, b9, dm⟩ := ob dk
   refine wc_cutg (fun E' w' => ∃ bj, E' = [(2, sv p2_field), (4, .int .i64 p4_most), (5, pt af), (6, pt I), (12, .bool b4), (13, .slice X Y Z), (16, sv aO), (46, .slice aI aJ aK), (47, .int .i64 (p3_words.length : Int)), (48, .int .i64 ((bh : Nat) : Int)), (67, .bool dl)] ∧ SH w K [] w' bj [obj af [.slice f i k, .slice l m o] 26, obj I [.slice a b c, .slice q s x] 30, tail (.slice X Y Z) 9 1] ∧ KLe b7 bj) ?_ ?_
   ·refine wc_region (mv rfl (lv (rv_sneq (r := ([] : Str)) rfl rfl) (mv rfl ?_)))
    rcases bool_tf ((!(aO == ([] : Str)))) with U | U
    ·have bJ := cond_t U b9
     refine lg U (rv_move rfl) (lg U (rv_move rfl) ?_)
     obtain ⟨f4, dn, dp⟩ := ob bJ
     refine wl_call (wg rfl rfl U) rfl (rt_call (vs := [.slice X Y Z, sv aO]) co58 rfl) ((ok_slices_Contains_string F) bI.enter0 (aY.mono (az.trans aP.le)) b8 dn) ?_
     rintro f5 f6 ⟨dq, rfl, ca⟩
     refine ⟨_, rfl, ?_⟩
     have dr := (bI.c0 ca).t3
     refine lg U (rv_not rfl) (lv (rv_pick_t rfl U rfl) (wl_nil ?_))
     obtain rfl := oi dp
     exact qd ⟨dq, rfl, dr, ca.le⟩
    have bJ := cond_f U b9
    refine lu U (lu U (lu U (lu U (lv (rv_pick_f (v := .bool false) rfl U rfl) (wl_nil ?_)))))
    obtain rfl := oi bJ
    exact qd ⟨b7, rfl, bI, (KLe.refl _)⟩
   rintro _ f7 ⟨bj, rfl, cb, bk⟩
   refine qe_seq (wcc dm rfl (fun dt bK => ?_) (fun dt bK => ?_))
   ·refine wc_region (mv rfl (mv rfl (lb tStr (sv aO) [sv aO] aO underlying23 tf9 ⟨rfl, b8⟩ cb fun f8 f9 ga cc du dv => ?_)))
    obtain ⟨gb, dw, dx⟩ := ob bK
    refine lp underlying23 tf9 (SliceAt.mono (((az.trans aP.le).trans bk).trans cc) aY) du dw dv.f3 fun dy dz dA gc dB dC dD dE => (av rfl (nb (qg (lv (rv_add_to rfl rfl (w64_succ hi113 (SliceAt.max (aL.mono (y.trans A))))) (mv rfl (wl_nil ?_))))))
    obtain rfl := oi dx
    have dF := dE.f3.f3.sb (sk (sk (sk (sd sz))))
    exact qd ⟨dy, dz, dA, dB, rfl, dF, (((((ay.trans az).trans aP.le).trans bk).trans cc).trans dC), dD⟩
   refine wc_skip (qe_block (qg (lv (rv_add_to rfl rfl (w64_succ hi113 (SliceAt.max (aL.mono (y.trans A))))) (mv rfl (wl_nil ?_)))))
   obtain rfl := oi bK
   exact qd ⟨X, Y, Z, bj, rfl, cb, (((ay.trans az).trans aP.le).trans bk), (aY.mono ((az.trans aP.le).trans bk))⟩
  rintro aX _ c4 dG ⟨X, Y, Z, ar, rfl, aN, ay, aY⟩
  subst dG
  refine sr (lv (rv_lss rfl rfl) (ns (wc_cond_f rfl (decide_eq_false (by omega)) (wc_exit (qe_then_exit (qe_then_exit (qe_block_eq ?_)))))))
  obtain rfl := oi c2
  exact qd ⟨X, Y, Z, ar, rfl, aN, ay, aY⟩
 rintro _ gd ⟨D, G, H, bg, rfl, bl, V, aQ⟩
 refine qs (sr (mv rfl (lv (rv_not rfl) (nq (wcc c0 rfl (fun dH bL => ?_) (fun dH bL => ?_))))))
 ·refine sr (b0 tGHit underlying57 tf124 bl fun dI ge dJ gg dK dL => (av rfl (lv (rv_assign (v := .int .i64 (-1)) rfl) (nq (rr ?_)))))
  obtain rfl := oi bL
  have dM := dL.sb (sk (sd (sd (sd sz))))
  exact qe_ret (vs := [_, _]) results26 ⟨rfl, rfl, trivial⟩ ⟨dI, 0, 0, dJ, rfl, dM, dK, (by decide : rng64 (-1))⟩
 refine wc_skip (qr (lv (rv_loadmS (ds := [.slice f i k, .slice l m o]) tf26 rfl m0 bl rfl rfl) (lv (rv_loadmS (ds := [.slice a b c, .slice q s x]) tf30 rfl m1 bl rfl rfl) (lv (rv_build (cs := #[.slice f i k, .slice l m o, .slice a b c, .slice q s x]) sp80 tf80 rfl (by kernel_rfl)) (bx rfl bl fun J gj dN => ?_)))))
 have dO : SH _ _ _ _ _ [obj J [.slice f i k, .slice l m o, .slice a b c, .slice q s x] 80, _, _, _] := dN
 refine av rfl (nr (wl_buildSlice0 (tSlice tGBlock) wn rfl underlying121 tf33 dO fun dP gk bM B dQ dR => (av rfl (nsr (mv rfl (lv (rv_len (t := tStr) underlying23 rfl (aQ.mono B)) (lv (rv_move (v := .int .i64 0) rfl) (nq ?_))))))))
 obtain ⟨dS, dT, dU⟩ := ob bL
 refine wc_cutg (fun E' w' => ∃ aa ab ac bm, E' = [(2, sv p2_field), (4, .int .i64 p4_most), (6, pt I), (13, .slice D G H), (17, pt J), (18, .slice aa ab ac)] ∧ SH w K [] w' bm [obj I [.slice a b c, .slice q s x] 30, obj J [.slice f i k, .slice l m o, .slice a b c, .slice q s x] 80, tail (.slice D G H) 9 1, tail (.slice aa ab ac) 33 1] ∧ KLe bM bm ∧ SliceAt (tSlice tGBlock) bm aa ab ac dS) ?_ ?_
 ·refine wc_block ?_
  obtain ⟨gl, dV, dW⟩ := ob dT
  have dX := dR.f4.f2.f4.sb (sk (sk (sk (sk (sd sz)))))
  refine qF (fun (cd : Nat) (bN : (List (List GBlock))) E' w' => ∃ aR aS aT aU, E' = [(2, sv p2_field), (4, .int .i64 p4_most), (6, pt I), (13, .slice D G H), (17, pt J), (18, .slice aR aS aT), (81, .slice D G H), (82, .int .i64 (bf.2.length : Int)), (83, .int .i64 ((cd : Nat) : Int))] ∧ SH w K [] w' aU [obj I [.slice a b c, .slice q s x] 30, obj J [.slice f i k, .slice l m o, .slice a b c, .slice q s x] 80, tail (.slice D G H) 9 1, tail (.slice aR aS aT) 33 1] ∧ KLe bM aU ∧ SliceAt (tSlice tGBlock) aU aR aS aT bN) dV ⟨dP, 0, 0, bM, rfl, dX, (KLe.refl _), dQ⟩ ?_ ?_
  ·rintro cd bN _ dY gm hi241 dZ ⟨aR, aS, aT, aU, rfl, bn, au, bO⟩
   refine sr (lv (rv_lss rfl rfl) (ns (wc_cond_t rfl (decide_eq_true (by omega)) (wc_skip (qe_seq (wc_seq (wc_block (sr ?_))))))))
   obtain ⟨ce, d0, d1⟩ := ob dZ
   refine li underlying23 tf9 (aQ.mono (B.trans au)) d0 fun d2 d3 go d4 d5 => ?_
   obtain ⟨rfl, d6⟩ := d4
   have d7 : AtK _ d2 d3 [sv ce] := d5
   refine lv (rv_load1 tf9 rfl bn (d7 0 _ rfl)) (av rfl (nq (wc_region (mv rfl (mv rfl (mv rfl (mv rfl ?_)))))))
   obtain ⟨d8, d9, ea⟩ := ob d1
   have cf := bn.f1
   refine lc (vs := [pt J, sv p2_field, sv ce]) co37 ((ok_impl_scorer_bounds F (p0_x := (GScorer.mk p0_c p1_s))) cf.e1 (SliceAt.mono ((((y.trans A).trans V).trans B).trans au) bc) (SliceAt.mono ((((y.trans A).trans V).trans B).trans au) bd) (SliceAt.mono ((((y.trans A).trans V).trans B).trans au) aq) (SliceAt.mono ((((y.trans A).trans V).trans B).trans au) bs) bt d6 d9) ?_
   rintro gp gq ⟨cg, ch, ci, gr, rfl, bP, eb⟩
   refine ⟨_, rfl, ?_⟩
   have ec := (cf.c1 bP).t5
   refine lb (tSlice tGBlock) (.slice cg ch ci) [.slice cg ch ci] d8 underlying121 tf33 ⟨_, _, _, rfl, eb⟩ ec fun gv gw gx cj ed ee => ?_
   obtain ⟨gy, ef, eg⟩ := ob ea
   refine lp underlying121 tf33 (bO.mono (bP.le.trans cj)) ed ef ee.f5 fun eh ei ej gz ek el em en => (av rfl (nb (qg (lv (rv_add_to rfl rfl (w64_succ hi241 (SliceAt.max (aQ.mono B)))) (mv rfl (wl_nil ?_))))))
   obtain rfl := oi eg
   have eo := en.f5.f4.f5.sb (sk (sk (sk (sk (sd (sd sz))))))
   exact qd ⟨eh, ei, ej, ek, rfl, eo, (((au.trans bP.le).trans cj).trans el), em⟩
  rintro bN _ dY ep ⟨aR, aS, aT, aU, rfl, bn, au, bO⟩
  subst ep
  refine sr (lv (rv_lss rfl rfl) (ns (wc_cond_f rfl (decide_eq_false (by omega)) (wc_exit (qe_then_exit (qe_then_exit (qe_block_eq ?_)))))))
  obtain rfl := oi dW
  exact qd ⟨aR, aS, aT, aU, rfl, bn, au, bO⟩
 rintro _ gA ⟨aa, ab, ac, bm, rfl, eq, ad, es⟩
 refine qr (b0 tGHit underlying57 tf124 eq fun et gB bQ W eu ck => (av rfl (nr (lv (rv_assign (v := .int .i64 0) rfl) (nsr (fa ff30_0 rfl (lv (rv_loadm1 tf27 rfl m1 ck rfl) (lv (rv_len (t := tGDoc) underlying27 rfl (SliceAt.mono (((((y.trans A).trans V).trans B).trans ad).trans W) aq)) (lv (rv_move (v := .int .i64 0) rfl) ?_)))))))))
 refine nq ?_
 obtain ⟨bR, ev, ew⟩ := ob dU
 refine wc_cutg (fun E' w' => ∃ aZ a0 a2 a3, E' = [(21, .slice aZ a0 a2), (22, .int .i64 bR.2)] ∧ SH w K [] w' a3 [tail (.slice aZ a0 a2) 124 2] ∧ KLe bQ a3 ∧ SliceAt tGHit a3 aZ a0 a2 bR.1 ∧ rng64 bR.2) ?_ ?_
 ·refine wc_block ?_
  obtain ⟨gC, ex, ey⟩ := ob ev
  have ez := ck.f4.f4.f4.sb (sk (sk (sk (sk (sd sz)))))
  refine qF (fun (a4 : Nat) (ak : (List GHit) × Int) E' w' => ∃ O R S am, E' = [(2, sv p2_field), (4, .int .i64 p4_most), (13, .slice D G H), (17, pt J), (18, .slice aa ab ac), (21, .slice O R S), (22, .int .i64 ak.2), (97, .slice a b c), (98, .int .i64 (p1_s.Docs.length : Int)), (99, .int .i64 ((a4 : Nat) : Int))] ∧ SH w K [] w' am [obj J [.slice f i k, .slice l m o, .slice a b c, .slice q s x] 80, tail (.slice D G H) 9 1, tail (.slice aa ab ac) 33 1, tail (.slice O R S) 124 2] ∧ KLe bQ am ∧ SliceAt tGHit am O R S ak.1 ∧ rng64 ak.2) ex ⟨et, 0, 0, bQ, rfl, ez, (KLe.refl _), eu, (by decide : rng64 0)⟩ ?_ ?_
  ·rintro a4 ak _ eA gD hi327 eB ⟨O, R, S, am, rfl, bo, T, aw, bS⟩
   refine sr (lv (rv_lss rfl rfl) (ns (wc_cond_t rfl (decide_eq_true (by omega)) (wc_skip (qe_seq (wc_seq (wc_block (sr ?_))))))))
   obtain ⟨ae, eC, eD⟩ := ob eB
   refine li underlying27 tf71 (SliceAt.mono ((((((y.trans A).trans V).trans B).trans ad).trans W).trans T) aq) eC fun eE eF gE eG eH => ?_
   obtain ⟨aA, aB, aC, aD, aE, aF, rfl, bp, gF, gG⟩ := eG
   have eI : AtK _ eE eF [.int .i64 ae.Id, .slice aA aB aC, .slice aD aE aF] := eH
   refine lv (rv_loadS (cs := [.int .i64 ae.Id, .slice aA aB aC, .slice aD aE aF]) tf71 rfl bo eI rfl) (al tf71 bo fun aG gH eJ => ?_)
   have eK : SH _ _ _ _ _ [obj aG [.int .i64 0, .slice none 0 0, .slice none 0 0] 71, _, _, _, _] := eJ
   refine ls [.int .i64 ae.Id, .slice aA aB aC, .slice aD aE aF] (.agg #[.int .i64 ae.Id, .slice aA aB aC, .slice aD aE aF]) tf71 eK fun gI eL => (nr (lv (rv_assign (v := .int .i64 0) rfl) (lv (rv_assign (v := .int .i64 0) rfl) (nsr (mv rfl (lv (rv_len (t := tStr) underlying23 rfl (SliceAt.mono (((B.trans ad).trans W).trans T) aQ)) (lv (rv_move (v := .int .i64 0) rfl) (nq ?_))))))))
   obtain ⟨an, eM, eN⟩ := ob eD
   refine wc_cutg (fun E' w' => ∃ aH, E' = [(2, sv p2_field), (4, .int .i64 p4_most), (13, .slice D G H), (17, pt J), (18, .slice aa ab ac), (21, .slice O R S), (22, .int .i64 ak.2), (24, pt aG), (25, .int .i64 an.1), (26, .int .i64 an.2), (97, .slice a b c), (98, .int .i64 (p1_s.Docs.length : Int)), (99, .int .i64 ((a4 : Nat) : Int))] ∧ SH w K [] w' aH [obj J [.slice f i k, .slice l m o, .slice a b c, .slice q s x] 80, obj aG [.int .i64 ae.Id, .slice aA aB aC, .slice aD aE aF] 71, tail (.slice D G H) 9 1, tail (.slice aa ab ac) 33 1, tail (.slice O R S) 124 2] ∧ KLe am aH ∧ rng64 an.1 ∧ rng64 an.2) ?_ ?_
   ·refine wc_block ?_
    obtain ⟨gJ, eO, eP⟩ := ob eM
    refine qF (fun (cl : Nat) (aV : Int × Int) E' w' => ∃ a6, E' = [(2, sv p2_field), (4, .int .i64 p4_most), (13, .slice D G H), (17, pt J), (18, .slice aa ab ac), (21, .slice O R S), (22, .int .i64 ak.2), (24, pt aG), (25, .int .i64 aV.1), (26, .int .i64 aV.2), (97, .slice a b c), (98, .int .i64 (p1_s.Docs.length : Int)), (99, .int .i64 ((a4 : Nat) : Int)), (103, .slice D G H), (104, .int .i64 (bf.2.length : Int)), (105, .int .i64 ((cl : Nat) : Int))] ∧ SH w K [] w' a6 [obj J [.slice f i k, .slice l m o, .slice a b c, .slice q s x] 80, obj aG [.int .i64 ae.Id, .slice aA aB aC, .slice aD aE aF] 71, tail (.slice D G H) 9 1, tail (.slice aa ab ac) 33 1, tail (.slice O R S) 124 2] ∧ KLe am a6 ∧ rng64 aV.1 ∧ rng64 aV.2) eO ⟨am, rfl, eL.f4.f4.f4.f3.f4, (KLe.refl _), (by decide : rng64 0), (by decide : rng64 0)⟩ ?_ ?_
    ·rintro cl aV _ eQ gK hi380 eR ⟨a6, rfl, a7, ao, cm, cn⟩
     refine sr (lv (rv_lss rfl rfl) (ns (wc_cond_t rfl (decide_eq_true (by omega)) (wc_skip (qe_seq (wc_seq (wc_block (sr (mv rfl ?_)))))))))
     obtain ⟨cp, eS, eT⟩ := ob eR
     refine li underlying23 tf9 (SliceAt.mono ((((B.trans ad).trans W).trans T).trans ao) aQ) eS fun eU eV gL eW eX => ?_
     obtain ⟨rfl, eY⟩ := eW
     have eZ : AtK _ eU eV [sv cp] := eX
     refine lv (rv_load1 tf9 rfl a7 (eZ 0 _ rfl)) (av rfl (av rfl (ns (wc_quiet mixed (by kernel_rfl) a7 (km rfl (km rfl (km rfl ?_)))))))
     obtain ⟨gM, e0, e1⟩ := ob eT
     refine ki underlying121 tf33 (es.mono ((W.trans T).trans ao)) e0 fun e2 e3 gN e4 e5 => ?_
     obtain ⟨cq, cr, ct, rfl, cu⟩ := e4
     have e6 : AtK _ e2 e3 [.slice cq cr ct] := e5
     refine kh (rq_load1 tf33 rfl (e6 0 _ rfl)) (kv (rv_fieldAddr ff71_0 rfl) (kh (rq_loadm1 tf3 rfl m1 rfl) ?_))
     obtain ⟨e7, cv, e8⟩ := ob e1
     refine wq_call (v := .int .i64 e7) wn rfl (fun _ => rt_call (vs := [.slice cq cr ct, .int .i64 ae.Id]) co15 rfl) (fun gO ⟨gP, cw, cx⟩ => ((ok_impl_BoundAt F) cw.enter0 (cu.mono cx) bp cv).mono fun e w' ⟨K', he, hS', _⟩ => ⟨he, K', cw.call0 hS', cx.trans hS'.le⟩) ?_
     obtain ⟨_, _, _, ⟨_, _, _, gQ⟩, _⟩ := (ok_impl_BoundAt F) a7.enter0 cu bp cv []
     refine kv (rv_add rfl rfl) (kv (rv_assign rfl) (wq_nil ?_))
     rintro gR ⟨gS, bT, a8⟩
     refine qe_seq (wc_region (mv rfl (mv rfl (mv rfl (mv rfl (fa ff71_0 rfl (lv (rv_loadm1 tf3 rfl m1 bT rfl) ?_)))))))
     obtain ⟨gT, e9, fb⟩ := ob e8
     refine lc (vs := [pt J, sv p2_field, sv cp, .int .i64 ae.Id]) co70 ((ok_impl_scorer_points F (p0_x := (GScorer.mk p0_c p1_s))) bT.e1 (SliceAt.mono ((((((((y.trans A).trans V).trans B).trans ad).trans W).trans T).trans ao).trans a8) bc) (SliceAt.mono ((((((((y.trans A).trans V).trans B).trans ad).trans W).trans T).trans ao).trans a8) bd) (SliceAt.mono ((((((((y.trans A).trans V).trans B).trans ad).trans W).trans T).trans ao).trans a8) aq) (SliceAt.mono ((((((((y.trans A).trans V).trans B).trans ad).trans W).trans T).trans ao).trans a8) bs) bt eY bp e9) ?_
     rintro gU gV ⟨fc, rfl, cy, gW⟩
     refine ⟨_, rfl, ?_⟩
     have fd := (bT.c1 cy).t5
     refine lv (rv_add rfl rfl) (av rfl (nb (qg (lv (rv_add_to rfl rfl (w64_succ hi380 (SliceAt.max (SliceAt.mono (((B.trans ad).trans W).trans T) aQ)))) (mv rfl (wl_nil ?_))))))
     obtain rfl := oi fb
     exact qd ⟨fc, rfl, fd, ((ao.trans a8).trans cy.le), (w64_rng _), (w64_rng _)⟩
    rintro aV _ eQ fe ⟨a6, rfl, a7, ao, cm, cn⟩
    subst fe
    refine sr (lv (rv_lss rfl rfl) (ns (wc_cond_f rfl (decide_eq_false (by omega)) (wc_exit (qe_then_exit (qe_then_exit (qe_block_eq ?_)))))))
    obtain rfl := oi eP
    exact qd ⟨a6, rfl, a7, ao, cm, cn⟩
   rintro _ gX ⟨aH, rfl, bq, ap, gY, fg⟩
   refine qs (wc_seq ?_)
   obtain ⟨fh, cz, fi⟩ := ob eN
   refine wc_cutg (fun E' w' => ∃ ba, E' = [(2, sv p2_field), (4, .int .i64 p4_most), (13, .slice D G H), (17, pt J), (18, .slice aa ab ac), (21, .slice O R S), (22, .int .i64 ak.2), (24, pt aG), (26, .int .i64 an.2), (97, .slice a b c), (98, .int .i64 (p1_s.Docs.length : Int)), (99, .int .i64 ((a4 : Nat) : Int)), (146, .bool fh)] ∧ SH w K [] w' ba [obj J [.slice f i k, .slice l m o, .slice a b c, .slice q s x] 80, obj aG [.int .i64 ae.Id, .slice aA aB aC, .slice aD aE aF] 71, tail (.slice D G H) 9 1, tail (.slice aa ab ac) 33 1, tail (.slice O R S) 124 2] ∧ KLe aH ba) ?_ ?_
   ·refine wc_region (mv rfl (lv (rv_eql rfl rfl) (mv rfl ?_)))
    rcases bool_tf ((an.1 == (0 : Int))) with C | C
    ·have br := cond_t C cz
     refine lu C (lu C (lu C (lu C (lu C (wl_un (uu rfl rfl) rfl (wl_un (uu rfl rfl) rfl (wl_un (uu rfl rfl) rfl (wl_un (uu rfl rfl) rfl (wl_un (uu rfl rfl) rfl ?_)))))))))
     refine wl_un (uu rfl rfl) rfl (wl_un (uu rfl rfl) rfl (wl_un (uu rfl rfl) rfl (wl_un (uu rfl rfl) rfl (lu C (lv (rv_pick_t (v := .bool true) rfl C rfl) (wl_nil ?_))))))
     obtain rfl := oi br
     exact qd ⟨aH, rfl, bq, (KLe.refl _)⟩
    have br := cond_f C cz
    refine lg C (rv_move rfl) (lg C (rv_len (t := tGHit) underlying57 rfl (aw.mono ap)) (lg C (rv_move rfl) (lg C (rv_eql rfl rfl) (lg C (rv_move rfl) ?_))))
    rcases bool_tf (((ak.1.length : Int) == p4_most)) with d | d
    ·have bU := cond_t d br
     refine lg d (rv_move rfl) (lg d (rv_move rfl) (lg d (rv_move rfl) (lg d (rv_len (t := tGHit) underlying57 rfl (aw.mono ap)) (lg d (rv_sub rfl rfl) ?_))))
     obtain ⟨cA, fj, fk⟩ := ob bU
     refine wl_indexAddr (t := tGHit) (wg rfl rfl d) rfl underlying57 tf124 rfl rfl (aw.mono ap) fj fun fl fm gZ fn fo => ?_
     obtain ⟨rfl, g0, g1⟩ := fn
     have fp : AtK _ fl fm [.int .i64 cA.Doc, .int .i64 cA.Points] := fo
     refine lg d (rv_fieldAddr ff124_1 rfl) (lg d (rv_load1 tf3 rfl bq (fp 1 _ rfl)) (lg d (rv_leq rfl rfl) (lg C (rv_pick_t rfl d rfl) (lv (rv_pick_f rfl C rfl) (wl_nil ?_)))))
     obtain rfl := oi fk
     exact qd ⟨aH, rfl, bq, (KLe.refl _)⟩
    have bU := cond_f d br
    refine lu d (lu d (lu d (lu d (lu d (lu d (lu d (lu d (lu d (lg C (rv_pick_f (v := .bool false) rfl d rfl) ?_)))))))))
    refine lv (rv_pick_f rfl C rfl) (wl_nil ?_)
    obtain rfl := oi bU
    exact qd ⟨aH, rfl, bq, (KLe.refl _)⟩
   rintro _ g2 ⟨ba, rfl, bb, aW⟩
   refine qe_seq (wcc fi rfl (fun fq bV => ?_) (fun fq bV => ?_))
   ·refine wc_exit (qe_then_exit (qe_block_eq (qg (lv (rv_add_to rfl rfl (w64_succ hi327 (SliceAt.max (SliceAt.mono (((((y.trans A).trans V).trans B).trans ad).trans W) aq)))) (mv rfl (wl_nil ?_))))))
    obtain rfl := oi bV
    have fr := bb.sb (sk (sd (sk (sk (sk sz)))))
    exact qd ⟨O, R, S, ba, rfl, fr, ((T.trans ap).trans aW), (aw.mono (ap.trans aW)), bS⟩
   refine wc_skip (qr (mv rfl (lv (rv_add rfl rfl) (av rfl (nr (mv rfl (lv (rv_gtr rfl rfl) (nq (wcc bV rfl (fun fs bW => ?_) (fun fs bW => ?_))))))))))
   ·refine wc_region (mv rfl (fa ff71_0 rfl (lv (rv_loadm1 tf3 rfl m1 bb rfl) (mv rfl (lv (rv_build (cs := #[.int .i64 ae.Id, .int .i64 an.2]) sp124 tf124 rfl (by kernel_rfl)) (mv rfl ?_))))))
    obtain ⟨g3, ft, fu⟩ := ob bW
    refine lc (vs := [.slice O R S, .agg #[.int .i64 ae.Id, .int .i64 an.2], .int .i64 p4_most]) co71 ((ok_impl_TopPush F (p1_h := (GHit.mk ae.Id an.2))) bb.enter0 (aw.mono (ap.trans aW)) bp fg bX ft) ?_
    rintro g4 g5 ⟨fv, fw, fx, fy, rfl, cB, fz⟩
    refine ⟨_, rfl, ?_⟩
    have fA := (bb.c0 cB).t6
    refine av rfl (nb (qg (lv (rv_add_to rfl rfl (w64_succ hi327 (SliceAt.max (SliceAt.mono (((((y.trans A).trans V).trans B).trans ad).trans W) aq)))) (mv rfl (wl_nil ?_)))))
    obtain rfl := oi fu
    have fB := fA.f4.f4.f3.sb (sk (sk (sk (sk (sd (sd sz))))))
    exact qd ⟨fv, fw, fx, fy, rfl, fB, (((T.trans ap).trans aW).trans cB.le), fz, (w64_rng _)⟩
   refine wc_skip (qe_block (qg (lv (rv_add_to rfl rfl (w64_succ hi327 (SliceAt.max (SliceAt.mono (((((y.trans A).trans V).trans B).trans ad).trans W) aq)))) (mv rfl (wl_nil ?_)))))
   obtain rfl := oi bW
   have fC := bb.sb (sk (sd (sk (sk (sk sz)))))
   exact qd ⟨O, R, S, ba, rfl, fC, ((T.trans ap).trans aW), (aw.mono (ap.trans aW)), (w64_rng _)⟩
  rintro ak _ eA fD ⟨O, R, S, am, rfl, bo, T, aw, bS⟩
  subst fD
  refine sr (lv (rv_lss rfl rfl) (ns (wc_cond_f rfl (decide_eq_false (by omega)) (wc_exit (qe_then_exit (qe_then_exit (qe_block_eq ?_)))))))
  obtain rfl := oi ey
  have fE := bo.sb (sd (sd (sd (sk sz))))
  exact qd ⟨O, R, S, am, rfl, fE, T, aw, bS⟩
 rintro _ g6 ⟨aZ, a0, a2, a3, rfl, fF, g7, fG, fH⟩
 refine qr (mv rfl (mv rfl (av rfl (av rfl (nq (wc_ret ?_))))))
 obtain rfl := oi ew
 exact qe_ret (vs := [_, _]) results26 ⟨rfl, rfl, trivial⟩ ⟨aZ, a0, a2, a3, rfl, fF, fG, fH⟩

theorem ok_spec_l1In (F : Nat) {w : World} {K : KMap} {p0_n : Int} {p1_low : Int} {p2_high : Int} {r : Bool} (hS : SH w K [] w K []) (c : rng64 p0_n) (d : rng64 p1_low) (f : rng64 p2_high) (hm : M.spec_l1In F p0_n p1_low p2_high = some r) :
  Calls Tryz.prog 74 #[.int .i64 p0_n, .int .i64 p1_low, .int .i64 p2_high] w fun e w' => ∃ K', e = .returned (.bool r) ∧ SH w K [] w' K' [] := by
 rw [M.spec_l1In] at hm
 refine calls_in func74 rfl ntmps74 rfl (sr (lv (rv_assign (v := .bool false) rfl) (nr (mv rfl (mv rfl (lv (rv_geq rfl rfl) (mv rfl ?_)))))))
 rcases bool_tf (decide (p1_low ≤ p0_n)) with a | a
 ·have b := cond_t a hm
  refine lg a (rv_move rfl) (lg a (rv_move rfl) (lg a (rv_leq rfl rfl) (lv (rv_pick_t rfl a rfl) (av rfl (nq (wc_ret ?_))))))
  obtain rfl := oi b
  exact er results74 ⟨rfl, trivial⟩ ⟨K, rfl, hS⟩
 have b := cond_f a hm
 refine lu a (lu a (lu a (lv (rv_pick_f (v := .bool false) rfl a rfl) (av rfl (nq (wc_ret ?_))))))
 obtain rfl := oi b
 exact er results74 ⟨rfl, trivial⟩ ⟨K, rfl, hS⟩

theorem ok_spec_l1WordOk (F : Nat) {w : World} {K : KMap} {p0_s : Str} {r : Bool} (hS : SH w K [] w K []) (I : p0_s.length ≤ maxLen) (hm : M.spec_l1WordOk F p0_s = some r) :
  Calls Tryz.prog 72 #[sv p0_s] w fun e w' => ∃ K', e = .returned (.bool r) ∧ SH w K [] w' K' [] := by
 rw [M.spec_l1WordOk] at hm
 refine calls_in func72 rfl ntmps72 rfl (sr (lv (rv_assign (v := .bool false) rfl) (nsr (lv (rv_assign (v := .int .i64 0) rfl) (nq ?_)))))
 obtain ⟨J, O, f⟩ := ob hm
 refine wc_cutg (fun E' w' => ∃ q k, J = .inl q ∧ E' = [(0, sv p0_s)] ∧ SH w K [] w' k [] ∧ KLe K k) ?_ ?_
 ·refine wc_block ?_
  obtain ⟨az, R, s⟩ := ob O
  refine qw (fun (i : Int) E' w' => ∃ c, E' = [(0, sv p0_s), (3, .int .i64 i)] ∧ SH w K [] w' c [] ∧ KLe K c ∧ rng64 i) R ⟨K, rfl, hS, (KLe.refl _), (by decide : rng64 0)⟩ ?_
  rintro i _ aA aB S x ⟨c, rfl, y, A, aC⟩
  refine wc_seq (sr (mv rfl (mv rfl (lv (rv_slen underlying9 rfl) (lv (rv_lss rfl rfl) (nq (wcc S rfl (fun T l => ?_) (fun T l => ?_))))))))
  ·refine wc_skip (qs (wc_block (wc_seq ?_)))
   obtain ⟨U, V, W⟩ := ob l
   refine wc_cutg (fun E' w' => ∃ d, E' = [(0, sv p0_s), (3, .int .i64 i), (23, .bool U)] ∧ SH w K [] w' d [] ∧ KLe c d) ?_ ?_
   ·refine wc_quiet mixed (by kernel_rfl) y (km rfl (km rfl ?_))
    obtain ⟨X, Y, Z⟩ := ob V
    refine kv (rv_sidx underlying9 rfl rfl Y) ?_
    obtain ⟨B, aa, ab⟩ := ob Z
    refine wq_call (v := iv8 B) wn rfl (fun _ => rt_call (vs := [iv8 X]) co117 rfl) (fun aD ⟨aE, C, ac⟩ => ((ok_spec_l1Fold F) C.enter0  aa).mono fun e w' ⟨K', he, hS'⟩ => ⟨he, K', C.call0 hS', ac.trans hS'.le⟩) (km rfl (km rfl ?_))
    obtain ⟨ad, ae, D⟩ := ob ab
    refine kv (rv_sidx underlying9 rfl rfl ae) (kv (rv_bne rfl rfl) (km rfl ?_))
    rcases bool_tf ((!(B == ad))) with a | a
    ·have m := cond_t a D
     refine kn a (kn a (kn a (kn a (kv (rv_pick_t (v := .bool true) rfl a rfl) (wq_nil ?_)))))
     rintro aF ⟨af, ag, ah⟩
     obtain rfl := oi m
     exact qd ⟨af, rfl, ag, ah⟩
    have m := cond_f a D
    refine kg a (rv_move rfl) (kg a (rv_move rfl) ?_)
    obtain ⟨aG, ai, aj⟩ := ob m
    refine kg a (rv_sidx underlying9 rfl rfl ai) (kg a (rv_beq (b := (0 : UInt8)) rfl rfl) (kv (rv_pick_f rfl a rfl) (wq_nil ?_)))
    rintro aH ⟨ak, al, am⟩
    obtain rfl := oi aj
    exact qd ⟨ak, rfl, al, am⟩
   rintro _ aI ⟨d, rfl, G, an⟩
   refine qe_seq (wcc W rfl (fun ao o => ?_) (fun ao o => ?_))
   ·refine sr (lv (rv_assign (v := .bool false) rfl) (nq (wc_ret (qe_block_ret (qe_then_ret (qe_then_ret ?_))))))
    obtain rfl := oi o
    have ap := x _ rfl
    subst ap
    refine qe_block_ret (qe_then_ret ?_)
    obtain rfl := oi s
    refine qe_then_ret ?_
    obtain rfl := oi f
    exact er results72 ⟨rfl, trivial⟩ ⟨d, rfl, G⟩
   refine wc_skip (qe_block (qe_seq (wc_region (mv rfl (lv (rv_add rfl rfl) (av rfl (wl_nil ?_)))))))
   obtain rfl := oi o
   exact qd ⟨_, rfl, d, rfl, G, (A.trans an), (w64_rng _)⟩
  refine wc_exit (qe_then_exit (qe_then_exit ?_))
  obtain rfl := oi l
  have aq := x _ rfl
  subst aq
  refine qe_block_eq ?_
  obtain rfl := oi s
  exact qd ⟨_, c, rfl, rfl, y, A⟩
 rintro _ w8 ⟨q, k, rfl, rfl, H, aK⟩
 have f := elim_l f
 refine qr (mv rfl (lv (rv_slen underlying9 rfl) ?_))
 obtain ⟨aL, ar, au⟩ := ob f
 refine lc (vs := [.int .i64 (p0_s.length : Int), .int .i64 1, .int .i64 12]) co74 ((ok_spec_l1In F) H.enter0 (rng_nat I) (by decide : rng64 1) (by decide : rng64 12) ar) ?_
 rintro aM aN ⟨aw, rfl, ax⟩
 refine ⟨_, rfl, ?_⟩
 have ay := (H.c0 ax).t0
 refine av rfl (nq (wc_ret ?_))
 obtain rfl := oi au
 exact er results72 ⟨rfl, trivial⟩ ⟨aw, rfl, ay⟩
end Go.Proofs.YtoeajphlomankaaGreatDoor
