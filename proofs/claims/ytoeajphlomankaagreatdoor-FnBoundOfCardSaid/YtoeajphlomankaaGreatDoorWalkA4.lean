/-
 Walks of the functions. Printed by gen.py.
-/
import Derived.Test.YtoeajphlomankaaGreatDoorWalkA3
set_option linter.unusedVariables false
set_option maxRecDepth 100000
namespace Go.Proofs.YtoeajphlomankaaGreatDoor
open Go Go.Fk Go.RowKit

theorem ok_impl_Seg_posts (F : Nat) {w : World} {K : KMap} {g1 : Nat} {f : Option Addr} {i k : Nat} {a : Option Addr} {b c : Nat} {p0_s : GSeg} {p1_field : Str} {p2_term : Str} {r : (List GPost)} (hS : SH w K (List.flatMap Item.gs [obj g1 [.slice f i k, .slice a b c] 30]) w K [obj g1 [.slice f i k, .slice a b c] 30]) (az : SliceAt tGDoc K f i k p0_s.Docs) (G : SliceAt tGEntry K a b c p0_s.Entries) (aA : p1_field.length ≤ maxLen) (aB : p2_term.length ≤ maxLen) (hm : M.impl_Seg_posts F p0_s p1_field p2_term = some r) :
  Calls Tryz.prog 44 #[.pointer (some ⟨g1, 0, none⟩), sv p1_field, sv p2_term] w fun e w' => ∃ (a_1 : Option Addr) (n_2 c_3 : Nat) (K' : KMap), e = .returned (.slice a_1 n_2 c_3) ∧ SH w K (List.flatMap Item.gs [obj g1 [.slice f i k, .slice a b c] 30]) w' K' [obj g1 [.slice f i k, .slice a b c] 30] ∧ SliceAt tGPost K' a_1 n_2 c_3 r := by
 rw [M.impl_Seg_posts] at hm
 refine calls_in Tryz.func44 rfl Tryz.ntmps44 rfl (sr (lv (rv_assign (v := .slice none 0 0) rfl) (nsr (mv rfl (lv (rv_nilCheck rfl) (fa ff30_1 rfl (lv (rv_loadm1 tf28 rfl m0 hS rfl) (lv (rv_len (t := tGEntry) Tryz.underlying28 rfl G) (lv (rv_move (v := .int .i64 0) rfl) ?_)))))))))
 refine nq ?_
 obtain ⟨X, Y, y⟩ := ob hm
 refine wc_cutg (fun E' w' => ∃ S A, X = .inl S ∧ E' = [(0, pt g1)] ∧ SH w K (List.flatMap Item.gs [obj g1 [.slice f i k, .slice a b c] 30]) w' A [obj g1 [.slice f i k, .slice a b c] 30] ∧ KLe K A) ?_ ?_
 ·refine wc_block ?_
  obtain ⟨aC, Z, T⟩ := ob Y
  refine qf (fun (H : Nat) (U : Unit) E' w' => ∃ m, E' = [(0, pt g1), (1, sv p1_field), (2, sv p2_term), (12, .slice a b c), (13, .int .i64 (p0_s.Entries.length : Int)), (14, .int .i64 ((H : Nat) : Int))] ∧ SH w K (List.flatMap Item.gs [obj g1 [.slice f i k, .slice a b c] 30]) w' m [obj g1 [.slice f i k, .slice a b c] 30] ∧ KLe K m) Z ⟨K, rfl, hS, (KLe.refl _)⟩ ?_ ?_
  ·rintro H U _ aa aD hi30 ab ac ⟨m, rfl, B, C⟩
   refine sr (lv (rv_lss rfl rfl) (ns (wc_cond_t rfl (decide_eq_true (by omega)) (wc_skip (qe_seq (wc_seq (wc_block (sr ?_))))))))
   obtain ⟨l, ad, ae⟩ := ob ab
   refine li Tryz.underlying28 tf86 (G.mono C) ad fun af ag aE ah ai => ?_
   obtain ⟨o, q, s, rfl, aF, aG, aj⟩ := ah
   have ak : AtK _ af ag [sv l.Field, sv l.Term, .slice o q s] := ai
   refine lv (rv_loadS (cs := [sv l.Field, sv l.Term, .slice o q s]) tf86 rfl B ak rfl) (al tf86 B fun I aH am => ?_)
   have an : SH _ _ _ _ _ [obj I [sv [], sv [], .slice none 0 0] 86, _] := am
   refine ls [sv l.Field, sv l.Term, .slice o q s] (.agg #[sv l.Field, sv l.Term, .slice o q s]) tf86 an fun aI D => (ns ?_)
   obtain ⟨ao, V, ap⟩ := ob ae
   refine wc_cutg (fun E' w' => ∃ x, E' = [(0, pt g1), (1, sv p1_field), (2, sv p2_term), (8, pt I), (12, .slice a b c), (13, .int .i64 (p0_s.Entries.length : Int)), (14, .int .i64 ((H : Nat) : Int)), (27, .bool ao)] ∧ SH w K (List.flatMap Item.gs [obj g1 [.slice f i k, .slice a b c] 30]) w' x [obj g1 [.slice f i k, .slice a b c] 30, obj I [sv l.Field, sv l.Term, .slice o q s] 86] ∧ KLe m x) ?_ ?_
   ·refine wc_region (fa ff86_0 rfl (lv (rv_loadm1 tf9 rfl m0 D rfl) (mv rfl (lv (rv_seql rfl rfl) (mv rfl ?_)))))
    rcases bool_tf ((l.Field == p1_field)) with d | d
    ·have J := cond_t d V
     refine lg d (rv_fieldAddr ff86_1 rfl) (lg d (rv_loadm1 tf9 rfl m0 D rfl) (lg d (rv_move rfl) (lg d (rv_seql rfl rfl) (lv (rv_pick_t rfl d rfl) (wl_nil ?_)))))
     obtain rfl := oi J
     exact qd ⟨m, rfl, D.f1, (KLe.refl _)⟩
    have J := cond_f d V
    refine lu d (lu d (lu d (lu d (lv (rv_pick_f (v := .bool false) rfl d rfl) (wl_nil ?_)))))
    obtain rfl := oi J
    exact qd ⟨m, rfl, D.f1, (KLe.refl _)⟩
   rintro _ aJ ⟨x, rfl, O, W⟩
   refine qe_seq (wcc ap rfl (fun aq R => ?_) (fun aq R => ?_))
   ·refine sr (fa ff86_2 rfl (lv (rv_loadm1 tf37 rfl m1 O rfl) (av rfl (nq (wc_ret (qe_block_ret (qe_then_ret (qe_then_ret ?_))))))))
    obtain rfl := oi R
    have ar := ac _ rfl
    subst ar
    refine qe_block_ret (qe_then_ret ?_)
    obtain rfl := oi T
    refine qe_then_ret ?_
    obtain rfl := oi y
    have au := O.sb (sk (sd sz))
    exact er Tryz.results44 ⟨rfl, trivial⟩ ⟨o, q, s, x, rfl, au, (aj.mono W)⟩
   refine wc_skip (qe_block (qg (lv (rv_add_to rfl rfl (w64_succ hi30 (SliceAt.max G))) (mv rfl (wl_nil ?_)))))
   obtain rfl := oi R
   have aw := O.sb (sk (sd sz))
   exact qd ⟨_, rfl, x, rfl, aw, (C.trans W)⟩
  rintro U _ aa ax ⟨m, rfl, B, C⟩
  subst ax
  refine sr (lv (rv_lss rfl rfl) (ns (wc_cond_f rfl (decide_eq_false (by omega)) (wc_exit (qe_then_exit (qe_then_exit (qe_block_eq ?_)))))))
  obtain rfl := oi T
  exact qd ⟨_, m, rfl, rfl, B, C⟩
 rintro _ aK ⟨S, A, rfl, rfl, ay, aL⟩
 have y := elim_l y
 refine qr (lv (rv_assign (v := .slice none 0 0) rfl) (nq (wc_ret ?_)))
 obtain rfl := oi y
 exact er Tryz.results44 ⟨rfl, trivial⟩ ⟨none, 0, 0, A, rfl, ay, (SliceAt.nil _ _)⟩

theorem ok_impl_divisor (F : Nat) {w : World} {K : KMap} {p0_a : Int} {p1_b : Int} {r : Int} (hS : SH w K [] w K []) (o : rng64 p0_a) (q : rng64 p1_b) (hm : M.impl_divisor F p0_a p1_b = some r) :
  Calls Tryz.prog 149 #[.int .i64 p0_a, .int .i64 p1_b] w fun e w' => ∃ (K' : KMap), e = .returned (.int .i64 r) ∧ SH w K [] w' K' [] ∧ rng64 r := by
 rw [M.impl_divisor] at hm
 refine calls_in Tryz.func149 rfl Tryz.ntmps149 rfl (sr (lv (rv_assign (v := .int .i64 0) rfl) (ns ?_)))
 obtain ⟨f, s, x⟩ := ob hm
 refine wc_cutg (fun E' w' => ∃ b, E' = [(0, .int .i64 f)] ∧ SH w K [] w' b [] ∧ KLe K b ∧ rng64 f) ?_ ?_
 ·refine wc_block ?_
  obtain ⟨U, y, A⟩ := ob s
  refine qw (fun (a : Int × Int) E' w' => ∃ c, E' = [(0, .int .i64 a.1), (1, .int .i64 a.2)] ∧ SH w K [] w' c [] ∧ KLe K c ∧ rng64 a.1 ∧ rng64 a.2) y ⟨K, rfl, hS, (KLe.refl _), o, q⟩ ?_
  rintro a _ V W B C ⟨c, rfl, i, k, l, D⟩
  refine wc_seq (sr (mv rfl (lv (rv_neq rfl rfl) (nq (wcc B rfl (fun G d => ?_) (fun G d => ?_))))))
  ·refine wc_skip (qe_seq (wc_block (wc_quiet mixed (by kernel_rfl) i (km rfl (km rfl (km rfl ?_))))))
   obtain ⟨X, m, H⟩ := ob d
   refine kv (rv_rem rfl rfl m) (kv (rv_assign rfl) (kv (rv_assign rfl) (wq_nil ?_)))
   rintro Y ⟨I, J, O⟩
   refine qe_block ?_
   obtain rfl := oi H
   exact qd ⟨_, rfl, I, rfl, J, (k.trans O), D, (rng_rem l m)⟩
  refine wc_exit (qe_then_exit (qe_then_exit ?_))
  obtain rfl := oi d
  have R := C _ rfl
  subst R
  refine qe_block_eq ?_
  obtain rfl := oi A
  exact qd ⟨c, rfl, i, k, l⟩
 rintro _ Z ⟨b, rfl, S, aa, T⟩
 refine qr (mv rfl (mv rfl (lv (rv_neg rfl) (lv (rv_max2 rfl rfl) (av rfl (nq (wc_ret ?_)))))))
 obtain rfl := oi x
 exact er Tryz.results149 ⟨rfl, trivial⟩ ⟨b, rfl, S, (rng_max T (w64_rng _))⟩

theorem ok_impl_RatOk (F : Nat) {w : World} {K : KMap} {p0_r : GRat} {r : Bool} (hS : SH w K [] w K []) (l : rng64 p0_r.Up) (m : rng64 p0_r.Down) (hm : M.impl_RatOk F p0_r = some r) :
  Calls Tryz.prog 98 #[.agg #[.int .i64 p0_r.Up, .int .i64 p0_r.Down]] w fun e w' => ∃ (K' : KMap), e = .returned (.bool r) ∧ SH w K [] w' K' [] := by
 rw [M.impl_RatOk] at hm
 refine calls_in Tryz.func98 rfl Tryz.ntmps98 rfl (sr (bx rfl hS fun s X x => ?_))
 have f : SH _ _ _ _ _ [obj s [.int .i64 p0_r.Up, .int .i64 p0_r.Down] 92] := x
 refine lv (rv_assign (v := .bool false) rfl) (nr (fa ff92_0 rfl (lv (rv_loadm1 tf3 rfl m0 f rfl) ?_)))
 obtain ⟨y, A, o⟩ := ob hm
 refine lc (vs := [.int .i64 p0_r.Up, .int .i64 (-1000000000), .int .i64 1000000000]) co55 ((ok_impl_within F) f.enter0 l (by decide : rng64 (-1000000000)) (by decide : rng64 1000000000) A) ?_
 rintro Y Z ⟨B, rfl, C⟩
 refine ⟨_, rfl, ?_⟩
 have d := (f.c0 C).t1
 refine mv rfl ?_
 rcases bool_tf (y) with b | b
 ·have i := cond_t b o
  refine lg b (rv_fieldAddr ff92_1 rfl) (lg b (rv_loadm1 tf3 rfl m0 d rfl) ?_)
  obtain ⟨D, G, q⟩ := ob i
  refine wl_call (wg rfl rfl b) rfl (rt_call (vs := [.int .i64 p0_r.Down, .int .i64 1, .int .i64 1000000000]) co55 rfl) ((ok_impl_within F) d.enter0 m (by decide : rng64 1) (by decide : rng64 1000000000) G) ?_
  rintro aa ab ⟨H, rfl, I⟩
  refine ⟨_, rfl, ?_⟩
  have c := (d.c0 I).t1
  refine lv (rv_pick_t rfl b rfl) (mv rfl ?_)
  rcases bool_tf (D) with a | a
  ·have k := cond_t a q
   refine lg a (rv_fieldAddr ff92_0 rfl) (lg a (rv_loadm1 tf3 rfl m0 c rfl) (lg a (rv_fieldAddr ff92_1 rfl) (lg a (rv_loadm1 tf3 rfl m0 c rfl) ?_)))
   obtain ⟨ac, J, O⟩ := ob k
   refine wl_call (wg rfl rfl a) rfl (rt_call (vs := [.int .i64 p0_r.Up, .int .i64 p0_r.Down]) co149 rfl) ((ok_impl_divisor F) c.enter0 l m J) ?_
   rintro ad ae ⟨R, rfl, S, af⟩
   refine ⟨_, rfl, ?_⟩
   have T := (c.c0 S).t1
   refine lg a (rv_eql rfl rfl) (lv (rv_pick_t rfl a rfl) (av rfl (nq (wc_ret ?_))))
   obtain rfl := oi O
   have U := T.sb (sd sz)
   exact er Tryz.results98 ⟨rfl, trivial⟩ ⟨R, rfl, U⟩
  have k := cond_f a q
  refine lu a (lu a (lu a (lu a (lu a (lu a (lv (rv_pick_f (v := .bool false) rfl a rfl) (av rfl (nq (wc_ret ?_)))))))))
  obtain rfl := oi k
  have V := c.sb (sd sz)
  exact er Tryz.results98 ⟨rfl, trivial⟩ ⟨H, rfl, V⟩
 have i := cond_f b o
 refine lu b (lu b (lu b (lv (rv_pick_f (v := .bool false) rfl b rfl) (mv rfl (lu rfl (lu rfl (lu rfl (lu rfl (lu rfl ?_)))))))))
 refine lu rfl (lv (rv_pick_f (v := .bool false) rfl rfl rfl) (av rfl (nq (wc_ret ?_))))
 obtain rfl := oi i
 have W := d.sb (sd sz)
 exact er Tryz.results98 ⟨rfl, trivial⟩ ⟨B, rfl, W⟩

theorem ok_impl_lowest (F : Nat) {w : World} {K : KMap} {p0_up : Int} {p1_down : Int} {r : GRat × Bool} (hS : SH w K [] w K []) (D : rng64 p0_up) (G : rng64 p1_down) (hm : M.impl_lowest F p0_up p1_down = some r) :
  Calls Tryz.prog 148 #[.int .i64 p0_up, .int .i64 p1_down] w fun e w' => ∃ (K' : KMap), e = .returned (.tuple #[.agg #[.int .i64 r.1.Up, .int .i64 r.1.Down], .bool r.2]) ∧ SH w K [] w' K' [] ∧ rng64 r.1.Up ∧ rng64 r.1.Down := by
 rw [M.impl_lowest] at hm
 refine calls_in Tryz.func148 rfl Tryz.ntmps148 rfl (sr (al tf92 hS fun i w4 H => ?_))
 have s : SH _ _ _ _ _ [obj i [.int .i64 0, .int .i64 0] 92] := H
 refine lv (rv_assign (v := .bool false) rfl) (nsr (mv rfl (lv (rv_lss rfl rfl) (nq ?_))))
 obtain ⟨d, I, J⟩ := ob hm
 refine wc_cutg (fun E' w' => ∃ k, E' = [(0, .int .i64 d.1), (1, .int .i64 d.2), (4, pt i)] ∧ SH w K [] w' k [obj i [.int .i64 0, .int .i64 0] 92] ∧ KLe K k ∧ rng64 d.1 ∧ rng64 d.2) ?_ ?_
 ·refine wcc I rfl (fun O l => ?_) (fun O l => ?_)
  ·refine wc_region (mv rfl (lv (rv_neg rfl) (mv rfl (lv (rv_neg rfl) (av rfl (av rfl (wl_nil ?_)))))))
   obtain rfl := oi l
   exact qd ⟨K, rfl, s, (KLe.refl _), (w64_rng _), (w64_rng _)⟩
  refine wc_skip ?_
  obtain rfl := oi l
  exact qd ⟨K, rfl, s, (KLe.refl _), D, G⟩
 rintro _ aj ⟨k, rfl, x, ak, R, S⟩
 refine qr (mv rfl (mv rfl ?_))
 obtain ⟨am, T, U⟩ := ob J
 refine lc (vs := [.int .i64 d.1, .int .i64 d.2]) co149 ((ok_impl_divisor F) x.enter0 R S T) ?_
 rintro an ao ⟨V, rfl, W, ap⟩
 refine ⟨_, rfl, ?_⟩
 have X := (x.c0 W).t1
 refine av rfl (ns ?_)
 have y := X.drew
 refine wh1 (fun w' => Holds V w') (fun w' => True) 9 [] mixed (y.hasK (KLe.refl _)) (fun _ => trivial) (gt (rv_move rfl) (gt (rv_move rfl) ?_))
 obtain ⟨a, m, Y⟩ := ob U
 refine gt (rv_quo rfl rfl m) (gt (rv_move rfl) (gt (rv_move rfl) ?_))
 obtain ⟨b, o, Z⟩ := ob Y
 refine gt (rv_quo rfl rfl o) (gt (rv_build (cs := #[.int .i64 a, .int .i64 b]) sp92 tf92 rfl (by kernel_rfl)) (gn (al tf92 y fun aa aq ab => ?_)))
 have A : SH _ _ _ _ _ [obj aa [.int .i64 0, .int .i64 0] 92, _] := ab
 refine wl_nil (qh (A.hasK (KLe.refl _)) (fun _ => trivial) (gn (ls [.int .i64 a, .int .i64 b] (.agg #[.int .i64 a, .int .i64 b]) tf92 A fun ar f => (wl_nil (qh (f.hasK (KLe.refl _)) (fun _ => trivial) (gd' (qs (sr (lv (rv_loadmS (ds := [.int .i64 a, .int .i64 b]) tf92 rfl m0 f rfl rfl) ?_)))))))))
 obtain ⟨au, ac, ad⟩ := ob Z
 refine lc (vs := [.agg #[.int .i64 a, .int .i64 b]]) co98 ((ok_impl_RatOk F (p0_r := (GRat.mk a b))) f.enter0 (rng_quo m) (rng_quo o) ac) ?_
 rintro aw ax ⟨ae, rfl, af⟩
 refine ⟨_, rfl, ?_⟩
 have B := (f.c0 af).t2
 refine lv (rv_not rfl) (nq (wcc ad rfl (fun ag q => ?_) (fun ag q => ?_)))
 ·refine sr ?_
  cases q
 refine wc_skip (qr (lv (rv_loadmS (ds := [.int .i64 a, .int .i64 b]) tf92 rfl m0 B rfl rfl) (ls [.int .i64 a, .int .i64 b] (.agg #[.int .i64 a, .int .i64 b]) tf92 B.f1 fun ay C => (lv (rv_assign (v := .bool true) rfl) (nq (wc_ret ?_))))))
 obtain rfl := oi q
 have ah := C.sb (sd (sd sz))
 exact qe_ret (vs := [_, _]) Tryz.results148 ⟨⟨_, _, rfl, run_loadVar_at tf92 (cs := [.int .i64 a, .int .i64 b]) (fun j c e => by rw [Nat.zero_add, C.mem_obj m0]; exact e) (.inl ⟨rfl, rfl, rfl⟩)⟩, rfl, trivial⟩ ⟨ae, rfl, ah, (rng_quo m), (rng_quo o)⟩

theorem ok_impl_RatOf (F : Nat) {w : World} {K : KMap} {p0_a : Int} {p1_b : Int} {r : GRat × Bool} (hS : SH w K [] w K []) (x : rng64 p0_a) (y : rng64 p1_b) (hm : M.impl_RatOf F p0_a p1_b = some r) :
  Calls Tryz.prog 97 #[.int .i64 p0_a, .int .i64 p1_b] w fun e w' => ∃ (K' : KMap), e = .returned (.tuple #[.agg #[.int .i64 r.1.Up, .int .i64 r.1.Down], .bool r.2]) ∧ SH w K [] w' K' [] ∧ rng64 r.1.Up ∧ rng64 r.1.Down := by
 rw [M.impl_RatOf] at hm
 refine calls_in Tryz.func97 rfl Tryz.ntmps97 rfl (sr (al tf92 hS fun i w4 J => ?_))
 have A : SH _ _ _ _ _ [obj i [.int .i64 0, .int .i64 0] 92] := J
 refine lv (rv_assign (v := .bool false) rfl) (ns (wc_seq ?_))
 obtain ⟨O, R, S⟩ := ob hm
 refine wc_cutg (fun E' w' => ∃ k, E' = [(0, .int .i64 p0_a), (1, .int .i64 p1_b), (4, pt i), (17, .bool O)] ∧ SH w K [] w' k [obj i [.int .i64 0, .int .i64 0] 92] ∧ KLe K k) ?_ ?_
 ·refine wc_region (mv rfl ?_)
  obtain ⟨T, U, B⟩ := ob R
  refine lc (vs := [.int .i64 p0_a, .int .i64 (-1000000000), .int .i64 1000000000]) co55 ((ok_impl_within F) A.enter0 x (by decide : rng64 (-1000000000)) (by decide : rng64 1000000000) U) ?_
  rintro ai aj ⟨V, rfl, f⟩
  refine ⟨_, rfl, ?_⟩
  have l := (A.c0 f).t1
  refine lv (rv_not rfl) (mv rfl ?_)
  rcases bool_tf ((!T)) with a | a
  ·have m := cond_t a B
   refine lu a (lu a (lu a (lv (rv_pick_t (v := .bool true) rfl a rfl) (mv rfl (lu rfl (lu rfl (lv (rv_pick_t (v := .bool true) rfl rfl rfl) (wl_nil ?_))))))))
   obtain rfl := oi m
   exact qd ⟨V, rfl, l, f.le⟩
  have m := cond_f a B
  refine lg a (rv_move rfl) ?_
  obtain ⟨W, X, C⟩ := ob m
  refine wl_call (wg rfl rfl a) rfl (rt_call (vs := [.int .i64 p1_b, .int .i64 (-1000000000), .int .i64 1000000000]) co55 rfl) ((ok_impl_within F) l.enter0 y (by decide : rng64 (-1000000000)) (by decide : rng64 1000000000) X) ?_
  rintro ak am ⟨D, rfl, o⟩
  refine ⟨_, rfl, ?_⟩
  have G := (l.c0 o).t1
  refine lg a (rv_not rfl) (lv (rv_pick_f rfl a rfl) (mv rfl ?_))
  rcases bool_tf ((!W)) with b | b
  ·have q := cond_t b C
   refine lu b (lu b (lv (rv_pick_t (v := .bool true) rfl b rfl) (wl_nil ?_)))
   obtain rfl := oi q
   exact qd ⟨D, rfl, G, (f.le.trans o.le)⟩
  have q := cond_f b C
  refine lg b (rv_move rfl) (lg b (rv_eql rfl rfl) (lv (rv_pick_f rfl b rfl) (wl_nil ?_)))
  obtain rfl := oi q
  exact qd ⟨D, rfl, G, (f.le.trans o.le)⟩
 rintro _ an ⟨k, rfl, H, ao⟩
 refine qe_seq (wcc S rfl (fun Y s => ?_) (fun Y s => ?_))
 ·refine sr ?_
  cases s
 refine wc_skip (qr (mv rfl (mv rfl ?_)))
 obtain ⟨d, Z, aa⟩ := ob s
 refine lc (vs := [.int .i64 p0_a, .int .i64 p1_b]) co148 ((ok_impl_lowest F) H.enter0 x y Z) ?_
 rintro ap aq ⟨ab, rfl, ac, ad, ae⟩
 refine ⟨_, rfl, ?_⟩
 have af := (H.c0 ac).t1
 refine lv (rv_extract rfl rfl) (lv (rv_extract rfl rfl) (ls [.int .i64 d.1.Up, .int .i64 d.1.Down] (.agg #[.int .i64 d.1.Up, .int .i64 d.1.Down]) tf92 af fun ar I => (av rfl (nq (wc_ret ?_)))))
 obtain rfl := oi aa
 have ag := I.sb (sd sz)
 exact qe_ret (vs := [_, _]) Tryz.results97 ⟨⟨_, _, rfl, run_loadVar_at tf92 (cs := [.int .i64 d.1.Up, .int .i64 d.1.Down]) (fun j c e => by rw [Nat.zero_add, I.mem_obj m0]; exact e) (.inl ⟨rfl, rfl, rfl⟩)⟩, rfl, trivial⟩ ⟨ab, rfl, ag, ad, ae⟩

set_option maxHeartbeats 2000000 in
theorem ok_impl_TermScore (F : Nat) {w : World} {K : KMap} {p0_tf : Int} {p1_long : Int} {p2_total : Int} {p3_docs : Int} {p4_df : Int} {r : GRat × Bool} (hS : SH w K [] w K []) (U : rng64 p0_tf) (V : rng64 p1_long) (ah : rng64 p2_total) (W : rng64 p3_docs) (ai : rng64 p4_df) (hm : M.impl_TermScore F p0_tf p1_long p2_total p3_docs p4_df = some r) :
  Calls Tryz.prog 46 #[.int .i64 p0_tf, .int .i64 p1_long, .int .i64 p2_total, .int .i64 p3_docs, .int .i64 p4_df] w fun e w' => ∃ (K' : KMap), e = .returned (.tuple #[.agg #[.int .i64 r.1.Up, .int .i64 r.1.Down], .bool r.2]) ∧ SH w K [] w' K' [] ∧ rng64 r.1.Up ∧ rng64 r.1.Down := by
 rw [M.impl_TermScore] at hm
 refine calls_in Tryz.func46 rfl Tryz.ntmps46 rfl (sr (al tf92 hS fun i w7 aj => ?_))
 have X : SH _ _ _ _ _ [obj i [.int .i64 0, .int .i64 0] 92] := aj
 refine lv (rv_assign (v := .bool false) rfl) (ns (wc_seq ?_))
 obtain ⟨ak, am, an⟩ := ob hm
 refine wc_cutg (fun E' w' => ∃ k, E' = [(0, .int .i64 p0_tf), (1, .int .i64 p1_long), (2, .int .i64 p2_total), (3, .int .i64 p3_docs), (4, .int .i64 p4_df), (10, pt i), (38, .bool ak)] ∧ SH w K [] w' k [obj i [.int .i64 0, .int .i64 0] 92] ∧ KLe K k) ?_ ?_
 ·refine wc_region (mv rfl ?_)
  obtain ⟨ao, ap, Y⟩ := ob am
  refine lc (vs := [.int .i64 p0_tf, .int .i64 1, .int .i64 80]) co55 ((ok_impl_within F) X.enter0 U (by decide : rng64 1) (by decide : rng64 80) ap) ?_
  rintro a6 a7 ⟨aq, rfl, l⟩
  refine ⟨_, rfl, ?_⟩
  have x := (X.c0 l).t1
  refine lv (rv_not rfl) (mv rfl ?_)
  rcases bool_tf ((!ao)) with a | a
  ·have y := cond_t a Y
   refine lu a (lu a (lu a (lu a (lv (rv_pick_t (v := .bool true) rfl a rfl) (mv rfl (lu rfl (lu rfl (lu rfl (lv (rv_pick_t (v := .bool true) rfl rfl rfl) ?_)))))))))
   refine mv rfl (lu rfl (lu rfl (lu rfl (lu rfl (lv (rv_pick_t (v := .bool true) rfl rfl rfl) (mv rfl (lu rfl (lu rfl (lu rfl ?_)))))))))
   refine lu rfl (lv (rv_pick_t (v := .bool true) rfl rfl rfl) (wl_nil ?_))
   obtain rfl := oi y
   exact qd ⟨aq, rfl, x, l.le⟩
  have y := cond_f a Y
  refine lg a (rv_move rfl) (lg a (rv_move rfl) ?_)
  obtain ⟨ar, au, Z⟩ := ob y
  refine wl_call (wg rfl rfl a) rfl (rt_call (vs := [.int .i64 p1_long, .int .i64 p0_tf, .int .i64 80]) co55 rfl) ((ok_impl_within F) x.enter0 V U (by decide : rng64 80) au) ?_
  rintro a8 a9 ⟨aw, rfl, o⟩
  refine ⟨_, rfl, ?_⟩
  have A := (x.c0 o).t1
  refine lg a (rv_not rfl) (lv (rv_pick_f rfl a rfl) (mv rfl ?_))
  rcases bool_tf ((!ar)) with f | f
  ·have B := cond_t f Z
   refine lu f (lu f (lu f (lv (rv_pick_t (v := .bool true) rfl f rfl) (mv rfl (lu rfl (lu rfl (lu rfl (lu rfl (lv (rv_pick_t (v := .bool true) rfl rfl rfl) ?_)))))))))
   refine mv rfl (lu rfl (lu rfl (lu rfl (lu rfl (lv (rv_pick_t (v := .bool true) rfl rfl rfl) (wl_nil ?_))))))
   obtain rfl := oi B
   exact qd ⟨aw, rfl, A, (l.le.trans o.le)⟩
  have B := cond_f f Z
  refine lg f (rv_move rfl) ?_
  obtain ⟨ax, ay, aa⟩ := ob B
  refine wl_call (wg rfl rfl f) rfl (rt_call (vs := [.int .i64 p3_docs, .int .i64 1, .int .i64 16]) co55 rfl) ((ok_impl_within F) A.enter0 W (by decide : rng64 1) (by decide : rng64 16) ay) ?_
  rintro ba bb ⟨az, rfl, s⟩
  refine ⟨_, rfl, ?_⟩
  have C := (A.c0 s).t1
  refine lg f (rv_not rfl) (lv (rv_pick_f rfl f rfl) (mv rfl ?_))
  rcases bool_tf ((!ax)) with b | b
  ·have D := cond_t b aa
   refine lu b (lu b (lu b (lu b (lv (rv_pick_t (v := .bool true) rfl b rfl) (mv rfl (lu rfl (lu rfl (lu rfl (lu rfl ?_)))))))))
   refine lv (rv_pick_t (v := .bool true) rfl rfl rfl) (wl_nil ?_)
   obtain rfl := oi D
   exact qd ⟨az, rfl, C, ((l.le.trans o.le).trans s.le)⟩
  have D := cond_f b aa
  refine lg b (rv_move rfl) (lg b (rv_move rfl) ?_)
  obtain ⟨aA, aB, ab⟩ := ob D
  refine wl_call (wg rfl rfl b) rfl (rt_call (vs := [.int .i64 p4_df, .int .i64 1, .int .i64 p3_docs]) co55 rfl) ((ok_impl_within F) C.enter0 ai (by decide : rng64 1) W aB) ?_
  rintro bc bd ⟨aC, rfl, G⟩
  refine ⟨_, rfl, ?_⟩
  have H := (C.c0 G).t1
  refine lg b (rv_not rfl) (lv (rv_pick_f rfl b rfl) (mv rfl ?_))
  rcases bool_tf ((!aA)) with d | d
  ·have I := cond_t d ab
   refine lu d (lu d (lu d (lu d (lv (rv_pick_t (v := .bool true) rfl d rfl) (wl_nil ?_)))))
   obtain rfl := oi I
   exact qd ⟨aC, rfl, H, (((l.le.trans o.le).trans s.le).trans G.le)⟩
  have I := cond_f d ab
  refine lg d (rv_move rfl) (lg d (rv_move rfl) ?_)
  obtain ⟨be, aD, aE⟩ := ob I
  refine wl_call (wg rfl rfl d) rfl (rt_call (vs := [.int .i64 p2_total, .int .i64 p1_long, .int .i64 1280]) co55 rfl) ((ok_impl_within F) H.enter0 ah V (by decide : rng64 1280) aD) ?_
  rintro bf bg ⟨aF, rfl, ac⟩
  refine ⟨_, rfl, ?_⟩
  have aG := (H.c0 ac).t1
  refine lg d (rv_not rfl) (lv (rv_pick_f rfl d rfl) (wl_nil ?_))
  obtain rfl := oi aE
  exact qd ⟨aF, rfl, aG, ((((l.le.trans o.le).trans s.le).trans G.le).trans ac.le)⟩
 rintro _ bh ⟨k, rfl, aH, bi⟩
 refine qe_seq (wcc an rfl (fun aI J => ?_) (fun aI J => ?_))
 ·refine sr ?_
  cases J
 refine wc_skip (qr (lv (rv_assign (v := .int .i64 0) rfl) (ns ?_)))
 obtain ⟨O, aJ, aK⟩ := ob J
 refine wc_cutg (fun E' w' => ∃ R, E' = [(0, .int .i64 p0_tf), (1, .int .i64 p1_long), (2, .int .i64 p2_total), (3, .int .i64 p3_docs), (10, pt i), (12, .int .i64 O)] ∧ SH w K [] w' R [obj i [.int .i64 0, .int .i64 0] 92] ∧ KLe k R ∧ rng64 O) ?_ ?_
 ·refine wc_block ?_
  obtain ⟨bj, aL, aM⟩ := ob aJ
  refine qw (fun (S : Int) E' w' => ∃ q, E' = [(0, .int .i64 p0_tf), (1, .int .i64 p1_long), (2, .int .i64 p2_total), (3, .int .i64 p3_docs), (4, .int .i64 p4_df), (10, pt i), (12, .int .i64 S)] ∧ SH w K [] w' q [obj i [.int .i64 0, .int .i64 0] 92] ∧ KLe k q ∧ rng64 S) aL ⟨k, rfl, aH, (KLe.refl _), (by decide : rng64 0)⟩ ?_
  rintro S _ bk bl aN aO ⟨q, rfl, ad, ae, aP⟩
  refine wc_seq (sr (mv rfl (mv rfl (lv (rv_add rfl rfl) ?_))))
  obtain ⟨bm, aQ, aR⟩ := ob aN
  refine lv (rv_shl rfl rfl aQ) (mv rfl (lv (rv_leq rfl rfl) (nq (wcc aR rfl (fun aS T => ?_) (fun aS T => ?_)))))
  ·refine wc_skip (qe_seq (wc_block (wc_region (mv rfl (lv (rv_add rfl rfl) (av rfl (nb ?_)))))))
   obtain rfl := oi T
   exact qd ⟨_, rfl, q, rfl, ad, ae, (w64_rng _)⟩
  refine wc_exit (qe_then_exit (qe_then_exit ?_))
  obtain rfl := oi T
  have aT := aO _ rfl
  subst aT
  refine qe_block_eq ?_
  obtain rfl := oi aM
  exact qd ⟨q, rfl, ad, ae, aP⟩
 rintro _ bn ⟨R, rfl, af, bo, bp⟩
 refine qr (mv rfl (lv (rv_mul rfl rfl) (mv rfl (lv (rv_add rfl rfl) (lv (rv_mul rfl rfl) (mv rfl (lv (rv_mul rfl rfl) (lv (rv_add rfl rfl) (mv rfl ?_)))))))))
 refine lv (rv_mul rfl rfl) (mv rfl (lv (rv_mul rfl rfl) (mv rfl ?_)))
 obtain ⟨aU, aV, aW⟩ := ob aK
 refine lv (rv_quo rfl rfl aV) (lv (rv_add rfl rfl) ?_)
 obtain ⟨m, aX, aY⟩ := ob aW
 refine lc (vs := [.int .i64 (w64 ((w64 ((22 : Int) * p0_tf)) * (w64 (O + (1 : Int))))), .int .i64 (w64 ((w64 ((w64 ((10 : Int) * p0_tf)) + (3 : Int))) + aU))]) co97 ((ok_impl_RatOf F) af.enter0 (w64_rng _) (w64_rng _) aX) ?_
 rintro bq br ⟨aZ, rfl, a0, a1, a2⟩
 refine ⟨_, rfl, ?_⟩
 have a3 := (af.c0 a0).t1
 refine lv (rv_extract rfl rfl) (lv (rv_extract rfl rfl) (ls [.int .i64 m.1.Up, .int .i64 m.1.Down] (.agg #[.int .i64 m.1.Up, .int .i64 m.1.Down]) tf92 a3 fun bs ag => (av rfl (nq (wc_ret ?_)))))
 obtain rfl := oi aY
 have a4 := ag.sb (sd sz)
 exact qe_ret (vs := [_, _]) Tryz.results46 ⟨⟨_, _, rfl, run_loadVar_at tf92 (cs := [.int .i64 m.1.Up, .int .i64 m.1.Down]) (fun j c e => by rw [Nat.zero_add, ag.mem_obj m0]; exact e) (.inl ⟨rfl, rfl, rfl⟩)⟩, rfl, trivial⟩ ⟨aZ, rfl, a4, a1, a2⟩

theorem ok_impl_RatFloor (F : Nat) {w : World} {K : KMap} {p0_r : GRat} {p1_times : Int} {r : Int} (hS : SH w K [] w K []) (y : rng64 p0_r.Up) (A : rng64 p0_r.Down) (B : rng64 p1_times) (hm : M.impl_RatFloor F p0_r p1_times = some r) :
  Calls Tryz.prog 47 #[.agg #[.int .i64 p0_r.Up, .int .i64 p0_r.Down], .int .i64 p1_times] w fun e w' => ∃ (K' : KMap), e = .returned (.int .i64 r) ∧ SH w K [] w' K' [] ∧ rng64 r := by
 rw [M.impl_RatFloor] at hm
 refine calls_in Tryz.func47 rfl Tryz.ntmps47 rfl (sr (bx rfl hS fun d w5 C => ?_))
 have f : SH _ _ _ _ _ [obj d [.int .i64 p0_r.Up, .int .i64 p0_r.Down] 92] := C
 refine lv (rv_assign (v := .int .i64 0) rfl) (ns (wc_seq ?_))
 obtain ⟨D, G, H⟩ := ob hm
 refine wc_cutg (fun E' w' => ∃ c, E' = [(1, .int .i64 p1_times), (2, pt d), (13, .bool D)] ∧ SH w K [] w' c [obj d [.int .i64 p0_r.Up, .int .i64 p0_r.Down] 92] ∧ KLe K c) ?_ ?_
 ·refine wc_region (lv (rv_loadmS (ds := [.int .i64 p0_r.Up, .int .i64 p0_r.Down]) tf92 rfl m0 f rfl rfl) ?_)
  obtain ⟨I, J, q⟩ := ob G
  refine lc (vs := [.agg #[.int .i64 p0_r.Up, .int .i64 p0_r.Down]]) co98 ((ok_impl_RatOk F) f.enter0 y A J) ?_
  rintro ae af ⟨O, rfl, i⟩
  refine ⟨_, rfl, ?_⟩
  have k := (f.c0 i).t1
  refine lv (rv_not rfl) (mv rfl ?_)
  rcases bool_tf ((!I)) with a | a
  ·have l := cond_t a q
   refine lu a (lu a (lu a (lv (rv_pick_t (v := .bool true) rfl a rfl) (wl_nil ?_))))
   obtain rfl := oi l
   exact qd ⟨O, rfl, k, i.le⟩
  have l := cond_f a q
  refine lg a (rv_move rfl) ?_
  obtain ⟨ag, R, S⟩ := ob l
  refine wl_call (wg rfl rfl a) rfl (rt_call (vs := [.int .i64 p1_times, .int .i64 1, .int .i64 1000]) co55 rfl) ((ok_impl_within F) k.enter0 B (by decide : rng64 1) (by decide : rng64 1000) R) ?_
  rintro ah ai ⟨T, rfl, s⟩
  refine ⟨_, rfl, ?_⟩
  have U := (k.c0 s).t1
  refine lg a (rv_not rfl) (lv (rv_pick_f rfl a rfl) (wl_nil ?_))
  obtain rfl := oi S
  exact qd ⟨T, rfl, U, (i.le.trans s.le)⟩
 rintro _ aj ⟨c, rfl, b, ak⟩
 refine qe_seq (wcc H rfl (fun V m => ?_) (fun V m => ?_))
 ·refine sr (lv (rv_assign (v := .int .i64 0) rfl) (nq (rr ?_)))
  obtain rfl := oi m
  have W := b.sb (sd sz)
  exact er Tryz.results47 ⟨rfl, trivial⟩ ⟨c, rfl, W, (by decide : rng64 0)⟩
 refine wc_skip (qr (fa ff92_0 rfl (lv (rv_loadm1 tf3 rfl m0 b rfl) (mv rfl (lv (rv_mul rfl rfl) (av rfl (nsr (mv rfl (lv (rv_geq rfl rfl) ?_)))))))))
 refine nq (wcc m rfl (fun X o => ?_) (fun X o => ?_))
 ·refine sr (mv rfl (fa ff92_1 rfl (lv (rv_loadm1 tf3 rfl m0 b rfl) ?_)))
  obtain ⟨al, x, Y⟩ := ob o
  refine lv (rv_quo rfl rfl x) (av rfl (nq (rr ?_)))
  obtain rfl := oi Y
  have Z := b.sb (sd sz)
  exact er Tryz.results47 ⟨rfl, trivial⟩ ⟨c, rfl, Z, (rng_quo x)⟩
 refine wc_skip (qr (mv rfl (lv (rv_neg rfl) (fa ff92_1 rfl (lv (rv_loadm1 tf3 rfl m0 b rfl) (lv (rv_add rfl rfl) (lv (rv_sub rfl rfl) (fa ff92_1 rfl (lv (rv_loadm1 tf3 rfl m0 b rfl) ?_)))))))))
 obtain ⟨am, aa, ab⟩ := ob o
 refine lv (rv_quo rfl rfl aa) (lv (rv_neg rfl) (av rfl (nq (wc_ret ?_))))
 obtain rfl := oi ab
 have ac := b.sb (sd sz)
 exact er Tryz.results47 ⟨rfl, trivial⟩ ⟨c, rfl, ac, (w64_rng _)⟩

theorem ok_impl_Seg_doc (F : Nat) {w : World} {K : KMap} {g1 : Nat} {a : Option Addr} {b d : Nat} {f : Option Addr} {i k : Nat} {p0_s : GSeg} {p1_id : Int} {r : GDoc × Bool} (hS : SH w K (List.flatMap Item.gs [obj g1 [.slice a b d, .slice f i k] 30]) w K [obj g1 [.slice a b d, .slice f i k] 30]) (X : SliceAt tGDoc K a b d p0_s.Docs) (aS : SliceAt tGEntry K f i k p0_s.Entries) (aT : rng64 p1_id) (hm : M.impl_Seg_doc F p0_s p1_id = some r) :
  Calls Tryz.prog 79 #[.pointer (some ⟨g1, 0, none⟩), .int .i64 p1_id] w fun e w' => ∃ (a_2 : Option Addr) (n_3 c_4 : Nat) (a_6 : Option Addr) (n_7 c_8 : Nat) (K' : KMap), e = .returned (.tuple #[.agg #[.int .i64 r.1.Id, .slice a_2 n_3 c_4, .slice a_6 n_7 c_8], .bool r.2]) ∧ SH w K (List.flatMap Item.gs [obj g1 [.slice a b d, .slice f i k] 30]) w' K' [obj g1 [.slice a b d, .slice f i k] 30] ∧ rng64 r.1.Id ∧ SliceAt tGField K' a_2 n_3 c_4 r.1.Fields ∧ SliceAt tGAttr K' a_6 n_7 c_8 r.1.Nums := by
 rw [M.impl_Seg_doc] at hm
 refine calls_in Tryz.func79 rfl Tryz.ntmps79 rfl (sr (al tf71 hS fun S aU ao => ?_))
 have ai : SH _ _ _ _ _ [obj S [.int .i64 0, .slice none 0 0, .slice none 0 0] 71, _] := ao
 refine lv (rv_assign (v := .bool false) rfl) (nsr (mv rfl (lv (rv_nilCheck rfl) (fa ff30_0 rfl (lv (rv_loadm1 tf27 rfl m1 ai rfl) (lv (rv_len (t := tGDoc) Tryz.underlying27 rfl X) (lv (rv_move (v := .int .i64 0) rfl) (nq ?_))))))))
 obtain ⟨ap, aq, T⟩ := ob hm
 refine wc_cutg (fun E' w' => ∃ B Y Z aa ab ac ad C, ap = .inl B ∧ E' = [(0, pt g1), (4, pt S)] ∧ SH w K (List.flatMap Item.gs [obj g1 [.slice a b d, .slice f i k] 30]) w' C [obj g1 [.slice a b d, .slice f i k] 30, obj S [.int .i64 B.Id, .slice Y Z aa, .slice ab ac ad] 71] ∧ KLe K C ∧ rng64 B.Id ∧ SliceAt tGField C Y Z aa B.Fields ∧ SliceAt tGAttr C ab ac ad B.Nums) ?_ ?_
 ·refine wc_block ?_
  obtain ⟨aV, ar, aj⟩ := ob aq
  refine qf (fun (ak : Nat) (D : GDoc) E' w' => ∃ G H I J O R l, E' = [(0, pt g1), (1, .int .i64 p1_id), (4, pt S), (11, .slice a b d), (12, .int .i64 (p0_s.Docs.length : Int)), (13, .int .i64 ((ak : Nat) : Int))] ∧ SH w K (List.flatMap Item.gs [obj g1 [.slice a b d, .slice f i k] 30]) w' l [obj g1 [.slice a b d, .slice f i k] 30, obj S [.int .i64 D.Id, .slice G H I, .slice J O R] 71] ∧ KLe K l ∧ rng64 D.Id ∧ SliceAt tGField l G H I D.Fields ∧ SliceAt tGAttr l J O R D.Nums) ar ⟨none, 0, 0, none, 0, 0, K, rfl, ai.f1, (KLe.refl _), (by decide : rng64 0), (SliceAt.nil _ _), (SliceAt.nil _ _)⟩ ?_ ?_
  ·rintro ak D _ au aW hi52 aw ax ⟨G, H, I, J, O, R, l, rfl, U, V, ae, af, ag⟩
   refine sr (lv (rv_lss rfl rfl) (ns (wc_cond_t rfl (decide_eq_true (by omega)) (wc_skip (qe_seq (wc_seq (wc_block (sr ?_))))))))
   obtain ⟨A, ay, az⟩ := ob aw
   refine li Tryz.underlying27 tf71 (X.mono V) ay fun aA aB aX aC aD => ?_
   obtain ⟨m, o, q, s, x, y, rfl, aE, aF, aG⟩ := aC
   have aH : AtK _ aA aB [.int .i64 A.Id, .slice m o q, .slice s x y] := aD
   refine lv (rv_loadS (cs := [.int .i64 A.Id, .slice m o q, .slice s x y]) tf71 rfl U aH rfl) (al tf71 U fun aI aY aJ => ?_)
   have aK : SH _ _ _ _ _ [obj aI [.int .i64 0, .slice none 0 0, .slice none 0 0] 71, _, _] := aJ
   refine ls [.int .i64 A.Id, .slice m o q, .slice s x y] (.agg #[.int .i64 A.Id, .slice m o q, .slice s x y]) tf71 aK fun aZ W => (nr (fa ff71_0 rfl (lv (rv_loadm1 tf3 rfl m0 W rfl) (mv rfl (lv (rv_eql rfl rfl) (nq (wcc az rfl (fun aL ah => ?_) (fun aL ah => ?_))))))))
   ·refine sr (lv (rv_loadmS (ds := [.int .i64 A.Id, .slice m o q, .slice s x y]) tf71 rfl m0 W rfl rfl) (ls [.int .i64 A.Id, .slice m o q, .slice s x y] (.agg #[.int .i64 A.Id, .slice m o q, .slice s x y]) tf71 W.f2 fun a0 am => (lv (rv_assign (v := .bool true) rfl) (nq (wc_ret (qe_block_ret (qe_then_ret (qe_then_ret ?_))))))))
    obtain rfl := oi ah
    have aM := ax _ rfl
    subst aM
    refine qe_block_ret (qe_then_ret ?_)
    obtain rfl := oi aj
    refine qe_then_ret ?_
    obtain rfl := oi T
    have aN := am.sb (sd (sd (sk sz)))
    exact qe_ret (vs := [_, _]) Tryz.results79 ⟨⟨_, _, rfl, run_loadVar_at tf71 (cs := [.int .i64 A.Id, .slice m o q, .slice s x y]) (fun j c e => by rw [Nat.zero_add, am.mem_obj m0]; exact e) (.inl ⟨rfl, rfl, rfl⟩)⟩, rfl, trivial⟩ ⟨m, o, q, s, x, y, l, rfl, aN, aE, aF, aG⟩
   refine wc_skip (qe_block (qg (lv (rv_add_to rfl rfl (w64_succ hi52 (SliceAt.max X))) (mv rfl (wl_nil ?_)))))
   obtain rfl := oi ah
   have aO := W.sb (sd (sk (sk sz)))
   exact qd ⟨_, rfl, G, H, I, J, O, R, l, rfl, aO, V, ae, af, ag⟩
  rintro D _ au aP ⟨G, H, I, J, O, R, l, rfl, U, V, ae, af, ag⟩
  subst aP
  refine sr (lv (rv_lss rfl rfl) (ns (wc_cond_f rfl (decide_eq_false (by omega)) (wc_exit (qe_then_exit (qe_then_exit (qe_block_eq ?_)))))))
  obtain rfl := oi aj
  exact qd ⟨_, G, H, I, J, O, R, l, rfl, rfl, U, V, ae, af, ag⟩
 rintro _ a1 ⟨B, Y, Z, aa, ab, ac, ad, C, rfl, rfl, aQ, a3, a4, a5, a7⟩
 have T := elim_l T
 refine qr (lv (rv_build (cs := #[.int .i64 0, .slice none 0 0, .slice none 0 0]) sp71 tf71 rfl (by kernel_rfl)) (ls [.int .i64 0, .slice none 0 0, .slice none 0 0] (.agg #[.int .i64 0, .slice none 0 0, .slice none 0 0]) tf71 aQ.f1 fun a8 an => (lv (rv_assign (v := .bool false) rfl) (nq (wc_ret ?_)))))
 obtain rfl := oi T
 have aR := an.sb (sd (sk sz))
 exact qe_ret (vs := [_, _]) Tryz.results79 ⟨⟨_, _, rfl, run_loadVar_at tf71 (cs := [.int .i64 0, .slice none 0 0, .slice none 0 0]) (fun j c e => by rw [Nat.zero_add, an.mem_obj m0]; exact e) (.inl ⟨rfl, rfl, rfl⟩)⟩, rfl, trivial⟩ ⟨none, 0, 0, none, 0, 0, C, rfl, aR, (by decide : rng64 0), (SliceAt.nil _ _), (SliceAt.nil _ _)⟩

theorem ok_impl_DocField (F : Nat) {w : World} {K : KMap} {c : Option Addr} {d f : Nat} {i : Option Addr} {k l : Nat} {p0_d : GDoc} {p1_name : Str} {r : Str} (hS : SH w K [] w K []) (S : rng64 p0_d.Id) (m : SliceAt tGField K c d f p0_d.Fields) (T : SliceAt tGAttr K i k l p0_d.Nums) (aC : p1_name.length ≤ maxLen) (hm : M.impl_DocField F p0_d p1_name = some r) :
  Calls Tryz.prog 147 #[.agg #[.int .i64 p0_d.Id, .slice c d f, .slice i k l], sv p1_name] w fun e w' => ∃ (K' : KMap), e = .returned (sv r) ∧ SH w K [] w' K' [] ∧ r.length ≤ maxLen := by
 rw [M.impl_DocField] at hm
 refine calls_in Tryz.func147 rfl Tryz.ntmps147 rfl (sr (bx rfl hS fun U aD V => ?_))
 have C : SH _ _ _ _ _ [obj U [.int .i64 p0_d.Id, .slice c d f, .slice i k l] 71] := V
 refine lv (rv_assign (v := sv []) rfl) (nsr (lv (rv_loadmS (ds := [.int .i64 p0_d.Id, .slice c d f, .slice i k l]) tf71 rfl m0 C rfl rfl) ?_))
 obtain ⟨aE, W, X⟩ := ob hm
 refine lc (vs := [.agg #[.int .i64 p0_d.Id, .slice c d f, .slice i k l]]) co88 ((ok_impl_DocOk F) C.enter0 S m T W) ?_
 rintro aF aG ⟨o, rfl, q⟩
 refine ⟨_, rfl, ?_⟩
 have D := (C.c0 q).t1
 refine nq (wcc X rfl (fun Y G => ?_) (fun Y G => ?_))
 ·refine sr (fa ff71_1 rfl (lv (rv_loadm1 tf68 rfl m0 D rfl) (lv (rv_len (t := tGField) Tryz.underlying68 rfl (m.mono q.le)) (lv (rv_move (v := .int .i64 0) rfl) (nq ?_)))))
  obtain ⟨Z, aa, s⟩ := ob G
  refine wc_cutg (fun E' w' => ∃ I x, Z = .inl I ∧ E' = [] ∧ SH w K [] w' x [] ∧ KLe o x) ?_ ?_
  ·refine wc_block ?_
   obtain ⟨aH, ab, J⟩ := ob aa
   have ac := D.sb (sd sz)
   refine qf (fun (O : Nat) (R : Unit) E' w' => ∃ b, E' = [(1, sv p1_name), (10, .slice c d f), (11, .int .i64 (p0_d.Fields.length : Int)), (12, .int .i64 ((O : Nat) : Int))] ∧ SH w K [] w' b [] ∧ KLe o b) ab ⟨o, rfl, ac, (KLe.refl _)⟩ ?_ ?_
   ·rintro O R _ ad aI hi44 ae af ⟨b, rfl, y, A⟩
    refine sr (lv (rv_lss rfl rfl) (ns (wc_cond_t rfl (decide_eq_true (by omega)) (wc_skip (qe_seq (wc_seq (wc_block (sr ?_))))))))
    obtain ⟨a, ag, ah⟩ := ob ae
    refine li Tryz.underlying68 tf141 (m.mono (q.le.trans A)) ag fun ai aj aJ ak am => ?_
    obtain ⟨rfl, aK, an⟩ := ak
    have ao : AtK _ ai aj [sv a.Name, sv a.Text] := am
    refine lv (rv_loadS (cs := [sv a.Name, sv a.Text]) tf141 rfl y ao rfl) (al tf141 y fun ap aL aq => ?_)
    have ar : SH _ _ _ _ _ [obj ap [sv [], sv []] 141] := aq
    refine ls [sv a.Name, sv a.Text] (.agg #[sv a.Name, sv a.Text]) tf141 ar fun aM B => (nr (fa ff141_0 rfl (lv (rv_loadm1 tf9 rfl m0 B rfl) (mv rfl (lv (rv_seql rfl rfl) (nq (wcc ah rfl (fun au H => ?_) (fun au H => ?_))))))))
    ·refine sr (fa ff141_1 rfl (lv (rv_loadm1 tf9 rfl m0 B rfl) (av rfl (nq (wc_ret (qe_block_ret (qe_then_ret (qe_then_ret ?_))))))))
     obtain rfl := oi H
     have aw := af _ rfl
     subst aw
     refine qe_block_ret (qe_then_ret ?_)
     obtain rfl := oi J
     refine qe_then_ret ?_
     obtain rfl := oi s
     have ax := B.sb (sd sz)
     exact er Tryz.results147 ⟨rfl, trivial⟩ ⟨b, rfl, ax, an⟩
    refine wc_skip (qe_block (qg (lv (rv_add_to rfl rfl (w64_succ hi44 (SliceAt.max (m.mono q.le)))) (mv rfl (wl_nil ?_)))))
    obtain rfl := oi H
    have ay := B.sb (sd sz)
    exact qd ⟨_, rfl, b, rfl, ay, A⟩
   rintro R _ ad az ⟨b, rfl, y, A⟩
   subst az
   refine sr (lv (rv_lss rfl rfl) (ns (wc_cond_f rfl (decide_eq_false (by omega)) (wc_exit (qe_then_exit (qe_then_exit (qe_block_eq ?_)))))))
   obtain rfl := oi J
   exact qe_mid' ⟨_, b, rfl, rfl, y, A⟩ trivial
  rintro _ aN ⟨I, x, rfl, rfl, aA, aO⟩
  have s := elim_l s
  refine qr (lv (rv_assign (v := sv []) rfl) (nq (wc_ret ?_)))
  obtain rfl := oi s
  exact er Tryz.results147 ⟨rfl, trivial⟩ ⟨x, rfl, aA, (by decide : ([] : Str).length ≤ maxLen)⟩
 refine wc_skip (qr (lv (rv_assign (v := sv []) rfl) (nq (wc_ret ?_))))
 obtain rfl := oi G
 have aB := D.sb (sd sz)
 exact er Tryz.results147 ⟨rfl, trivial⟩ ⟨o, rfl, aB, (by decide : ([] : Str).length ≤ maxLen)⟩

theorem ok_impl_Seg_long (F : Nat) {w : World} {K : KMap} {g1 : Nat} {k : Option Addr} {l m : Nat} {o : Option Addr} {q s : Nat} {a : Option Addr} {b c : Nat} {d : Option Addr} {f i : Nat} {p0_s : GSeg} {p1_c : GConf} {p2_field : Str} {p3_id : Int} {r : Int} (hS : SH w K (List.flatMap Item.gs [obj g1 [.slice k l m, .slice o q s] 30]) w K [obj g1 [.slice k l m, .slice o q s] 30]) (aa : SliceAt tGDoc K k l m p0_s.Docs) (ab : SliceAt tGEntry K o q s p0_s.Entries) (ac : SliceAt tStr K a b c p1_c.Stops) (ad : SliceAt tGSyn K d f i p1_c.Syns) (ae : p2_field.length ≤ maxLen) (af : rng64 p3_id) (hm : M.impl_Seg_long F p0_s p1_c p2_field p3_id = some r) :
  Calls Tryz.prog 96 #[.pointer (some ⟨g1, 0, none⟩), .agg #[.slice a b c, .slice d f i], sv p2_field, .int .i64 p3_id] w fun e w' => ∃ (K' : KMap), e = .returned (.int .i64 r) ∧ SH w K (List.flatMap Item.gs [obj g1 [.slice k l m, .slice o q s] 30]) w' K' [obj g1 [.slice k l m, .slice o q s] 30] ∧ rng64 r := by
 rw [M.impl_Seg_long] at hm
 refine calls_in Tryz.func96 rfl Tryz.ntmps96 rfl (sr (bx rfl hS fun T aE ag => ?_))
 have ah : SH _ _ _ _ _ [obj T [.slice a b c, .slice d f i] 26, _] := ag
 refine lv (rv_assign (v := .int .i64 0) rfl) (nr (mv rfl (mv rfl ?_)))
 obtain ⟨x, ai, aj⟩ := ob hm
 have U := ah.f1
 refine lc (vs := [pt g1, .int .i64 p3_id]) co79 ((ok_impl_Seg_doc F) U.e1 aa ab af ai) ?_
 rintro aF aG ⟨y, A, B, C, D, G, V, rfl, R, ak, am, an⟩
 refine ⟨_, rfl, ?_⟩
 have ao := (U.c1 R).t2
 refine mv rfl (lv (rv_extract rfl rfl) (lv (rv_extract rfl rfl) (al tf71 ao fun W aH ap => ?_)))
 have aq : SH _ _ _ _ _ [obj W [.int .i64 0, .slice none 0 0, .slice none 0 0] 71, _, _] := ap
 refine ls [.int .i64 x.1.Id, .slice y A B, .slice C D G] (.agg #[.int .i64 x.1.Id, .slice y A B, .slice C D G]) tf71 aq fun aI X => (av rfl (nsr (mv rfl (lv (rv_not rfl) (nq (wcc aj rfl (fun ar S => ?_) (fun ar S => ?_)))))))
 ·refine sr (lv (rv_assign (v := .int .i64 0) rfl) (nq (rr ?_)))
  obtain rfl := oi S
  have au := X.sb (sd (sk (sd sz)))
  exact er Tryz.results96 ⟨rfl, trivial⟩ ⟨V, rfl, au, (by decide : rng64 0)⟩
 refine wc_skip (qs ?_)
 have H := X.drew
 refine wh1 (fun w' => Holds V w' ∧ HasObj T [.slice a b c, .slice d f i] w' ∧ HasObj W [.int .i64 x.1.Id, .slice y A B, .slice C D G] w') (fun w' => True) 7 [] mixed ⟨H.hasK (KLe.refl _), H.hasObj m2, H.hasObj m0⟩ (fun _ => trivial) (gh (fun _ h => rh_loadmS (ds := [.slice a b c, .slice d f i]) tf26 rfl rfl rfl h.2.1) (gh (fun _ h => rh_loadmS (ds := [.int .i64 x.1.Id, .slice y A B, .slice C D G]) tf71 rfl rfl rfl h.2.2) (gt (rv_move rfl) (gn ?_))))
 obtain ⟨aw, ax, ay⟩ := ob S
 refine lc (vs := [.agg #[.int .i64 x.1.Id, .slice y A B, .slice C D G], sv p2_field]) co147 ((ok_impl_DocField F) H.enter0 ak am an ae ax) ?_
 rintro aJ aK ⟨aL, rfl, I, az⟩
 refine ⟨_, rfl, ?_⟩
 have J := (H.c0 I).t3
 refine wl_nil (qh ⟨J.hasK I.le, J.hasObj m2, J.hasObj m0⟩ (fun _ => trivial) (gn ?_))
 obtain ⟨aM, aA, aB⟩ := ob ay
 refine lc (vs := [.agg #[.slice a b c, .slice d f i], sv aw]) co78 ((ok_impl_TermsOf F) J.enter0 (ac.mono (R.le.trans I.le)) (ad.mono (R.le.trans I.le)) az aA) ?_
 rintro aN aO ⟨aP, aQ, aR, aC, rfl, Y, Z⟩
 refine ⟨_, rfl, ?_⟩
 have O := (J.c0 Y).t4
 refine wl_nil (qh ⟨O.hasK (I.le.trans Y.le), O.hasObj m3, O.hasObj m1⟩ (fun _ => trivial) (gt (rv_len (t := tGTerm) Tryz.underlying127 rfl Z) (gt (rv_assign rfl) (gd' (qe_seq (wc_ret ?_))))))
 obtain rfl := oi aB
 have aD := O.sb (sd (sd (sk (sd sz))))
 exact er Tryz.results96 ⟨rfl, trivial⟩ ⟨aC, rfl, aD, (rng_nat (SliceAt.max Z))⟩

theorem ok_impl_Seg_posts__ofGScorer1 (F : Nat) {w : World} {K : KMap} {g1 : Nat} {f : Option Addr} {i k : Nat} {l : Option Addr} {m o : Nat} {q : Option Addr} {s x : Nat} {a : Option Addr} {b c : Nat} {p0_s : GScorer} {p1_field : Str} {p2_term : Str} {r : (List GPost)} (hS : SH w K (List.flatMap Item.gs [obj g1 [.slice f i k, .slice l m o, .slice q s x, .slice a b c] 80]) w K [obj g1 [.slice f i k, .slice l m o, .slice q s x, .slice a b c] 80]) (aF : SliceAt tStr K f i k p0_s.c_.Stops) (aG : SliceAt tGSyn K l m o p0_s.c_.Syns) (aH : SliceAt tGDoc K q s x p0_s.s_.Docs) (S : SliceAt tGEntry K a b c p0_s.s_.Entries) (aI : p1_field.length ≤ maxLen) (aJ : p2_term.length ≤ maxLen) (hm : M.impl_Seg_posts__ofGScorer1 F p0_s p1_field p2_term = some r) :
  Calls Tryz.prog 44 #[.pointer (some ⟨g1, 2, none⟩), sv p1_field, sv p2_term] w fun e w' => ∃ (a_1 : Option Addr) (n_2 c_3 : Nat) (K' : KMap), e = .returned (.slice a_1 n_2 c_3) ∧ SH w K (List.flatMap Item.gs [obj g1 [.slice f i k, .slice l m o, .slice q s x, .slice a b c] 80]) w' K' [obj g1 [.slice f i k, .slice l m o, .slice q s x, .slice a b c] 80] ∧ SliceAt tGPost K' a_1 n_2 c_3 r := by
 rw [M.impl_Seg_posts__ofGScorer1] at hm
 refine calls_in Tryz.func44 rfl Tryz.ntmps44 rfl (sr (lv (rv_assign (v := .slice none 0 0) rfl) (nsr (mv rfl (lv (rv_nilCheck rfl) (fa ff30_1 rfl (lv (rv_loadm1 tf28 rfl m0 hS rfl) (lv (rv_len (t := tGEntry) Tryz.underlying28 rfl S) (lv (rv_move (v := .int .i64 0) rfl) ?_)))))))))
 refine nq ?_
 obtain ⟨ad, ae, H⟩ := ob hm
 refine wc_cutg (fun E' w' => ∃ Y I, ad = .inl Y ∧ E' = [(0, .pointer (some ⟨g1, 2, none⟩))] ∧ SH w K (List.flatMap Item.gs [obj g1 [.slice f i k, .slice l m o, .slice q s x, .slice a b c] 80]) w' I [obj g1 [.slice f i k, .slice l m o, .slice q s x, .slice a b c] 80] ∧ KLe K I) ?_ ?_
 ·refine wc_block ?_
  obtain ⟨aK, af, Z⟩ := ob ae
  refine qf (fun (T : Nat) (aa : Unit) E' w' => ∃ A, E' = [(0, .pointer (some ⟨g1, 2, none⟩)), (1, sv p1_field), (2, sv p2_term), (12, .slice a b c), (13, .int .i64 (p0_s.s_.Entries.length : Int)), (14, .int .i64 ((T : Nat) : Int))] ∧ SH w K (List.flatMap Item.gs [obj g1 [.slice f i k, .slice l m o, .slice q s x, .slice a b c] 80]) w' A [obj g1 [.slice f i k, .slice l m o, .slice q s x, .slice a b c] 80] ∧ KLe K A) af ⟨K, rfl, hS, (KLe.refl _)⟩ ?_ ?_
  ·rintro T aa _ ag aL hi38 ah ai ⟨A, rfl, J, O⟩
   refine sr (lv (rv_lss rfl rfl) (ns (wc_cond_t rfl (decide_eq_true (by omega)) (wc_skip (qe_seq (wc_seq (wc_block (sr ?_))))))))
   obtain ⟨y, aj, ak⟩ := ob ah
   refine li Tryz.underlying28 tf86 (S.mono O) aj fun am an aM ao ap => ?_
   obtain ⟨B, C, D, rfl, aN, aO, aq⟩ := ao
   have ar : AtK _ am an [sv y.Field, sv y.Term, .slice B C D] := ap
   refine lv (rv_loadS (cs := [sv y.Field, sv y.Term, .slice B C D]) tf86 rfl J ar rfl) (al tf86 J fun U aP au => ?_)
   have aw : SH _ _ _ _ _ [obj U [sv [], sv [], .slice none 0 0] 86, _] := au
   refine ls [sv y.Field, sv y.Term, .slice B C D] (.agg #[sv y.Field, sv y.Term, .slice B C D]) tf86 aw fun aQ R => (ns ?_)
   obtain ⟨ax, ab, ay⟩ := ob ak
   refine wc_cutg (fun E' w' => ∃ G, E' = [(0, .pointer (some ⟨g1, 2, none⟩)), (1, sv p1_field), (2, sv p2_term), (8, pt U), (12, .slice a b c), (13, .int .i64 (p0_s.s_.Entries.length : Int)), (14, .int .i64 ((T : Nat) : Int)), (27, .bool ax)] ∧ SH w K (List.flatMap Item.gs [obj g1 [.slice f i k, .slice l m o, .slice q s x, .slice a b c] 80]) w' G [obj g1 [.slice f i k, .slice l m o, .slice q s x, .slice a b c] 80, obj U [sv y.Field, sv y.Term, .slice B C D] 86] ∧ KLe A G) ?_ ?_
   ·refine wc_region (fa ff86_0 rfl (lv (rv_loadm1 tf9 rfl m0 R rfl) (mv rfl (lv (rv_seql rfl rfl) (mv rfl ?_)))))
    rcases bool_tf ((y.Field == p1_field)) with d | d
    ·have V := cond_t d ab
     refine lg d (rv_fieldAddr ff86_1 rfl) (lg d (rv_loadm1 tf9 rfl m0 R rfl) (lg d (rv_move rfl) (lg d (rv_seql rfl rfl) (lv (rv_pick_t rfl d rfl) (wl_nil ?_)))))
     obtain rfl := oi V
     exact qd ⟨A, rfl, R.f1, (KLe.refl _)⟩
    have V := cond_f d ab
    refine lu d (lu d (lu d (lu d (lv (rv_pick_f (v := .bool false) rfl d rfl) (wl_nil ?_)))))
    obtain rfl := oi V
    exact qd ⟨A, rfl, R.f1, (KLe.refl _)⟩
   rintro _ aR ⟨G, rfl, W, ac⟩
   refine qe_seq (wcc ay rfl (fun az X => ?_) (fun az X => ?_))
   ·refine sr (fa ff86_2 rfl (lv (rv_loadm1 tf37 rfl m1 W rfl) (av rfl (nq (wc_ret (qe_block_ret (qe_then_ret (qe_then_ret ?_))))))))
    obtain rfl := oi X
    have aA := ai _ rfl
    subst aA
    refine qe_block_ret (qe_then_ret ?_)
    obtain rfl := oi Z
    refine qe_then_ret ?_
    obtain rfl := oi H
    have aB := W.sb (sk (sd sz))
    exact er Tryz.results44 ⟨rfl, trivial⟩ ⟨B, C, D, G, rfl, aB, (aq.mono ac)⟩
   refine wc_skip (qe_block (qg (lv (rv_add_to rfl rfl (w64_succ hi38 (SliceAt.max S))) (mv rfl (wl_nil ?_)))))
   obtain rfl := oi X
   have aC := W.sb (sk (sd sz))
   exact qd ⟨_, rfl, G, rfl, aC, (O.trans ac)⟩
  rintro aa _ ag aD ⟨A, rfl, J, O⟩
  subst aD
  refine sr (lv (rv_lss rfl rfl) (ns (wc_cond_f rfl (decide_eq_false (by omega)) (wc_exit (qe_then_exit (qe_then_exit (qe_block_eq ?_)))))))
  obtain rfl := oi Z
  exact qd ⟨_, A, rfl, rfl, J, O⟩
 rintro _ aS ⟨Y, I, rfl, rfl, aE, aT⟩
 have H := elim_l H
 refine qr (lv (rv_assign (v := .slice none 0 0) rfl) (nq (wc_ret ?_)))
 obtain rfl := oi H
 exact er Tryz.results44 ⟨rfl, trivial⟩ ⟨none, 0, 0, I, rfl, aE, (SliceAt.nil _ _)⟩

theorem ok_impl_scorer_places (F : Nat) {w : World} {K : KMap} {g1 : Nat} {a : Option Addr} {b c : Nat} {d : Option Addr} {f i : Nat} {k : Option Addr} {l m : Nat} {o : Option Addr} {q s : Nat} {p0_x : GScorer} {p1_field : Str} {p2_term : Str} {p3_id : Int} {r : (List Int)} (hS : SH w K (List.flatMap Item.gs [obj g1 [.slice a b c, .slice d f i, .slice k l m, .slice o q s] 80]) w K [obj g1 [.slice a b c, .slice d f i, .slice k l m, .slice o q s] 80]) (X : SliceAt tStr K a b c p0_x.c_.Stops) (Y : SliceAt tGSyn K d f i p0_x.c_.Syns) (Z : SliceAt tGDoc K k l m p0_x.s_.Docs) (aa : SliceAt tGEntry K o q s p0_x.s_.Entries) (ab : p1_field.length ≤ maxLen) (ac : p2_term.length ≤ maxLen) (aM : rng64 p3_id) (hm : M.impl_scorer_places F p0_x p1_field p2_term p3_id = some r) :
  Calls Tryz.prog 114 #[.pointer (some ⟨g1, 0, none⟩), sv p1_field, sv p2_term, .int .i64 p3_id] w fun e w' => ∃ (a_1 : Option Addr) (n_2 c_3 : Nat) (K' : KMap), e = .returned (.slice a_1 n_2 c_3) ∧ SH w K (List.flatMap Item.gs [obj g1 [.slice a b c, .slice d f i, .slice k l m, .slice o q s] 80]) w' K' [obj g1 [.slice a b c, .slice d f i, .slice k l m, .slice o q s] 80] ∧ SliceAt tInt K' a_1 n_2 c_3 r := by
 rw [M.impl_scorer_places] at hm
 refine calls_in Tryz.func114 rfl Tryz.ntmps114 rfl (sr (lv (rv_assign (v := .slice none 0 0) rfl) (nsr (mv rfl (lv (rv_nilCheck rfl) (fa ff80_1 rfl (mv rfl (mv rfl ?_))))))))
 obtain ⟨ad, ae, af⟩ := ob hm
 refine lc (vs := [.pointer (some ⟨g1, 2, none⟩), sv p1_field, sv p2_term]) co44 ((ok_impl_Seg_posts__ofGScorer1 F) hS.e1 X Y Z aa ab ac ae) ?_
 rintro aN aO ⟨ag, ah, ai, O, rfl, aj, R⟩
 refine ⟨_, rfl, ?_⟩
 have ak := (hS.c1 aj).t1
 refine lv (rv_len (t := tGPost) Tryz.underlying37 rfl R) (lv (rv_move (v := .int .i64 0) rfl) (nq ?_))
 obtain ⟨am, an, C⟩ := ob af
 refine wc_cutg (fun E' w' => ∃ T D, am = .inl T ∧ E' = [(0, pt g1)] ∧ SH w K (List.flatMap Item.gs [obj g1 [.slice a b c, .slice d f i, .slice k l m, .slice o q s] 80]) w' D [obj g1 [.slice a b c, .slice d f i, .slice k l m, .slice o q s] 80] ∧ KLe O D) ?_ ?_
 ·refine wc_block ?_
  obtain ⟨aP, ao, U⟩ := ob an
  refine qf (fun (V : Nat) (W : Unit) E' w' => ∃ x, E' = [(0, pt g1), (3, .int .i64 p3_id), (16, .slice ag ah ai), (17, .int .i64 (ad.length : Int)), (18, .int .i64 ((V : Nat) : Int))] ∧ SH w K (List.flatMap Item.gs [obj g1 [.slice a b c, .slice d f i, .slice k l m, .slice o q s] 80]) w' x [obj g1 [.slice a b c, .slice d f i, .slice k l m, .slice o q s] 80] ∧ KLe O x) ao ⟨O, rfl, ak, (KLe.refl _)⟩ ?_ ?_
  ·rintro V W _ ap aQ hi51 aq ar ⟨x, rfl, G, H⟩
   refine sr (lv (rv_lss rfl rfl) (ns (wc_cond_t rfl (decide_eq_true (by omega)) (wc_skip (qe_seq (wc_seq (wc_block (sr ?_))))))))
   obtain ⟨I, au, aw⟩ := ob aq
   refine li Tryz.underlying37 tf42 (R.mono H) au fun ax ay aR az aA => ?_
   obtain ⟨y, A, B, rfl, aS, aB⟩ := az
   have aC : AtK _ ax ay [.int .i64 I.Doc, .slice y A B] := aA
   refine lv (rv_loadS (cs := [.int .i64 I.Doc, .slice y A B]) tf42 rfl G aC rfl) (al tf42 G fun aD aT aE => ?_)
   have aF : SH _ _ _ _ _ [obj aD [.int .i64 0, .slice none 0 0] 42, _] := aE
   refine ls [.int .i64 I.Doc, .slice y A B] (.agg #[.int .i64 I.Doc, .slice y A B]) tf42 aF fun aU J => (nr (fa ff42_0 rfl (lv (rv_loadm1 tf3 rfl m0 J rfl) (mv rfl (lv (rv_eql rfl rfl) (nq (wcc aw rfl (fun aG S => ?_) (fun aG S => ?_))))))))
   ·refine sr (fa ff42_1 rfl (lv (rv_loadm1 tf39 rfl m0 J rfl) (av rfl (nq (wc_ret (qe_block_ret (qe_then_ret (qe_then_ret ?_))))))))
    obtain rfl := oi S
    have aH := ar _ rfl
    subst aH
    refine qe_block_ret (qe_then_ret ?_)
    obtain rfl := oi U
    refine qe_then_ret ?_
    obtain rfl := oi C
    have aI := J.sb (sd (sk sz))
    exact er Tryz.results114 ⟨rfl, trivial⟩ ⟨y, A, B, x, rfl, aI, aB⟩
   refine wc_skip (qe_block (qg (lv (rv_add_to rfl rfl (w64_succ hi51 (SliceAt.max R))) (mv rfl (wl_nil ?_)))))
   obtain rfl := oi S
   have aJ := J.sb (sd (sk sz))
   exact qd ⟨_, rfl, x, rfl, aJ, H⟩
  rintro W _ ap aK ⟨x, rfl, G, H⟩
  subst aK
  refine sr (lv (rv_lss rfl rfl) (ns (wc_cond_f rfl (decide_eq_false (by omega)) (wc_exit (qe_then_exit (qe_then_exit (qe_block_eq ?_)))))))
  obtain rfl := oi U
  exact qd ⟨_, x, rfl, rfl, G, H⟩
 rintro _ aV ⟨T, D, rfl, rfl, aL, aW⟩
 have C := elim_l C
 refine qr (lv (rv_assign (v := .slice none 0 0) rfl) (nq (wc_ret ?_)))
 obtain rfl := oi C
 exact er Tryz.results114 ⟨rfl, trivial⟩ ⟨none, 0, 0, D, rfl, aL, (SliceAt.nil _ _)⟩

theorem ok_impl_Seg_doc__ofGScorer1 (F : Nat) {w : World} {K : KMap} {g1 : Nat} {f : Option Addr} {i k : Nat} {l : Option Addr} {m o : Nat} {a : Option Addr} {b d : Nat} {q : Option Addr} {s x : Nat} {p0_s : GScorer} {p1_id : Int} {r : GDoc × Bool} (hS : SH w K (List.flatMap Item.gs [obj g1 [.slice f i k, .slice l m o, .slice a b d, .slice q s x] 80]) w K [obj g1 [.slice f i k, .slice l m o, .slice a b d, .slice q s x] 80]) (aY : SliceAt tStr K f i k p0_s.c_.Stops) (aZ : SliceAt tGSyn K l m o p0_s.c_.Syns) (ad : SliceAt tGDoc K a b d p0_s.s_.Docs) (a0 : SliceAt tGEntry K q s x p0_s.s_.Entries) (a1 : rng64 p1_id) (hm : M.impl_Seg_doc__ofGScorer1 F p0_s p1_id = some r) :
  Calls Tryz.prog 79 #[.pointer (some ⟨g1, 2, none⟩), .int .i64 p1_id] w fun e w' => ∃ (a_2 : Option Addr) (n_3 c_4 : Nat) (a_6 : Option Addr) (n_7 c_8 : Nat) (K' : KMap), e = .returned (.tuple #[.agg #[.int .i64 r.1.Id, .slice a_2 n_3 c_4, .slice a_6 n_7 c_8], .bool r.2]) ∧ SH w K (List.flatMap Item.gs [obj g1 [.slice f i k, .slice l m o, .slice a b d, .slice q s x] 80]) w' K' [obj g1 [.slice f i k, .slice l m o, .slice a b d, .slice q s x] 80] ∧ rng64 r.1.Id ∧ SliceAt tGField K' a_2 n_3 c_4 r.1.Fields ∧ SliceAt tGAttr K' a_6 n_7 c_8 r.1.Nums := by
 rw [M.impl_Seg_doc__ofGScorer1] at hm
 refine calls_in Tryz.func79 rfl Tryz.ntmps79 rfl (sr (al tf71 hS fun Y a3 ax => ?_))
 have ap : SH _ _ _ _ _ [obj Y [.int .i64 0, .slice none 0 0, .slice none 0 0] 71, _] := ax
 refine lv (rv_assign (v := .bool false) rfl) (nsr (mv rfl (lv (rv_nilCheck rfl) (fa ff30_0 rfl (lv (rv_loadm1 tf27 rfl m1 ap rfl) (lv (rv_len (t := tGDoc) Tryz.underlying27 rfl ad) (lv (rv_move (v := .int .i64 0) rfl) (nq ?_))))))))
 obtain ⟨ay, az, Z⟩ := ob hm
 refine wc_cutg (fun E' w' => ∃ J ae af ag ah ai aj O, ay = .inl J ∧ E' = [(0, .pointer (some ⟨g1, 2, none⟩)), (4, pt Y)] ∧ SH w K (List.flatMap Item.gs [obj g1 [.slice f i k, .slice l m o, .slice a b d, .slice q s x] 80]) w' O [obj g1 [.slice f i k, .slice l m o, .slice a b d, .slice q s x] 80, obj Y [.int .i64 J.Id, .slice ae af ag, .slice ah ai aj] 71] ∧ KLe K O ∧ rng64 J.Id ∧ SliceAt tGField O ae af ag J.Fields ∧ SliceAt tGAttr O ah ai aj J.Nums) ?_ ?_
 ·refine wc_block ?_
  obtain ⟨a4, aA, aq⟩ := ob az
  refine qf (fun (ar : Nat) (R : GDoc) E' w' => ∃ S T U V W X y, E' = [(0, .pointer (some ⟨g1, 2, none⟩)), (1, .int .i64 p1_id), (4, pt Y), (11, .slice a b d), (12, .int .i64 (p0_s.s_.Docs.length : Int)), (13, .int .i64 ((ar : Nat) : Int))] ∧ SH w K (List.flatMap Item.gs [obj g1 [.slice f i k, .slice l m o, .slice a b d, .slice q s x] 80]) w' y [obj g1 [.slice f i k, .slice l m o, .slice a b d, .slice q s x] 80, obj Y [.int .i64 R.Id, .slice S T U, .slice V W X] 71] ∧ KLe K y ∧ rng64 R.Id ∧ SliceAt tGField y S T U R.Fields ∧ SliceAt tGAttr y V W X R.Nums) aA ⟨none, 0, 0, none, 0, 0, K, rfl, ap.f1, (KLe.refl _), (by decide : rng64 0), (SliceAt.nil _ _), (SliceAt.nil _ _)⟩ ?_ ?_
  ·rintro ar R _ aB a5 hi60 aC aD ⟨S, T, U, V, W, X, y, rfl, aa, ab, ak, am, an⟩
   refine sr (lv (rv_lss rfl rfl) (ns (wc_cond_t rfl (decide_eq_true (by omega)) (wc_skip (qe_seq (wc_seq (wc_block (sr ?_))))))))
   obtain ⟨I, aE, aF⟩ := ob aC
   refine li Tryz.underlying27 tf71 (ad.mono ab) aE fun aG aH a7 aI aJ => ?_
   obtain ⟨A, B, C, D, G, H, rfl, aK, aL, aM⟩ := aI
   have aN : AtK _ aG aH [.int .i64 I.Id, .slice A B C, .slice D G H] := aJ
   refine lv (rv_loadS (cs := [.int .i64 I.Id, .slice A B C, .slice D G H]) tf71 rfl aa aN rfl) (al tf71 aa fun aO a8 aP => ?_)
   have aQ : SH _ _ _ _ _ [obj aO [.int .i64 0, .slice none 0 0, .slice none 0 0] 71, _, _] := aP
   refine ls [.int .i64 I.Id, .slice A B C, .slice D G H] (.agg #[.int .i64 I.Id, .slice A B C, .slice D G H]) tf71 aQ fun a9 ac => (nr (fa ff71_0 rfl (lv (rv_loadm1 tf3 rfl m0 ac rfl) (mv rfl (lv (rv_eql rfl rfl) (nq (wcc aF rfl (fun aR ao => ?_) (fun aR ao => ?_))))))))
   ·refine sr (lv (rv_loadmS (ds := [.int .i64 I.Id, .slice A B C, .slice D G H]) tf71 rfl m0 ac rfl rfl) (ls [.int .i64 I.Id, .slice A B C, .slice D G H] (.agg #[.int .i64 I.Id, .slice A B C, .slice D G H]) tf71 ac.f2 fun ba au => (lv (rv_assign (v := .bool true) rfl) (nq (wc_ret (qe_block_ret (qe_then_ret (qe_then_ret ?_))))))))
    obtain rfl := oi ao
    have aS := aD _ rfl
    subst aS
    refine qe_block_ret (qe_then_ret ?_)
    obtain rfl := oi aq
    refine qe_then_ret ?_
    obtain rfl := oi Z
    have aT := au.sb (sd (sd (sk sz)))
    exact qe_ret (vs := [_, _]) Tryz.results79 ⟨⟨_, _, rfl, run_loadVar_at tf71 (cs := [.int .i64 I.Id, .slice A B C, .slice D G H]) (fun j c e => by rw [Nat.zero_add, au.mem_obj m0]; exact e) (.inl ⟨rfl, rfl, rfl⟩)⟩, rfl, trivial⟩ ⟨A, B, C, D, G, H, y, rfl, aT, aK, aL, aM⟩
   refine wc_skip (qe_block (qg (lv (rv_add_to rfl rfl (w64_succ hi60 (SliceAt.max ad))) (mv rfl (wl_nil ?_)))))
   obtain rfl := oi ao
   have aU := ac.sb (sd (sk (sk sz)))
   exact qd ⟨_, rfl, S, T, U, V, W, X, y, rfl, aU, ab, ak, am, an⟩
  rintro R _ aB aV ⟨S, T, U, V, W, X, y, rfl, aa, ab, ak, am, an⟩
  subst aV
  refine sr (lv (rv_lss rfl rfl) (ns (wc_cond_f rfl (decide_eq_false (by omega)) (wc_exit (qe_then_exit (qe_then_exit (qe_block_eq ?_)))))))
  obtain rfl := oi aq
  exact qd ⟨_, S, T, U, V, W, X, y, rfl, rfl, aa, ab, ak, am, an⟩
 rintro _ bb ⟨J, ae, af, ag, ah, ai, aj, O, rfl, rfl, aW, bc, bd, be, bf⟩
 have Z := elim_l Z
 refine qr (lv (rv_build (cs := #[.int .i64 0, .slice none 0 0, .slice none 0 0]) sp71 tf71 rfl (by kernel_rfl)) (ls [.int .i64 0, .slice none 0 0, .slice none 0 0] (.agg #[.int .i64 0, .slice none 0 0, .slice none 0 0]) tf71 aW.f1 fun bg aw => (lv (rv_assign (v := .bool false) rfl) (nq (wc_ret ?_)))))
 obtain rfl := oi Z
 have aX := aw.sb (sd (sk sz))
 exact qe_ret (vs := [_, _]) Tryz.results79 ⟨⟨_, _, rfl, run_loadVar_at tf71 (cs := [.int .i64 0, .slice none 0 0, .slice none 0 0]) (fun j c e => by rw [Nat.zero_add, aw.mem_obj m0]; exact e) (.inl ⟨rfl, rfl, rfl⟩)⟩, rfl, trivial⟩ ⟨none, 0, 0, none, 0, 0, O, rfl, aX, (by decide : rng64 0), (SliceAt.nil _ _), (SliceAt.nil _ _)⟩

theorem ok_impl_Seg_long__ofGScorer1 (F : Nat) {w : World} {K : KMap} {g1 : Nat} {k : Option Addr} {l m : Nat} {o : Option Addr} {q s : Nat} {x : Option Addr} {y A : Nat} {B : Option Addr} {C D : Nat} {a : Option Addr} {b c : Nat} {d : Option Addr} {f i : Nat} {p0_s : GScorer} {p1_c : GConf} {p2_field : Str} {p3_id : Int} {r : Int} (hS : SH w K (List.flatMap Item.gs [obj g1 [.slice k l m, .slice o q s, .slice x y A, .slice B C D] 80]) w K [obj g1 [.slice k l m, .slice o q s, .slice x y A, .slice B C D] 80]) (ag : SliceAt tStr K k l m p0_s.c_.Stops) (ah : SliceAt tGSyn K o q s p0_s.c_.Syns) (ai : SliceAt tGDoc K x y A p0_s.s_.Docs) (aj : SliceAt tGEntry K B C D p0_s.s_.Entries) (ak : SliceAt tStr K a b c p1_c.Stops) (am : SliceAt tGSyn K d f i p1_c.Syns) (an : p2_field.length ≤ maxLen) (ao : rng64 p3_id) (hm : M.impl_Seg_long__ofGScorer1 F p0_s p1_c p2_field p3_id = some r) :
  Calls Tryz.prog 96 #[.pointer (some ⟨g1, 2, none⟩), .agg #[.slice a b c, .slice d f i], sv p2_field, .int .i64 p3_id] w fun e w' => ∃ (K' : KMap), e = .returned (.int .i64 r) ∧ SH w K (List.flatMap Item.gs [obj g1 [.slice k l m, .slice o q s, .slice x y A, .slice B C D] 80]) w' K' [obj g1 [.slice k l m, .slice o q s, .slice x y A, .slice B C D] 80] ∧ rng64 r := by
 rw [M.impl_Seg_long__ofGScorer1] at hm
 refine calls_in Tryz.func96 rfl Tryz.ntmps96 rfl (sr (bx rfl hS fun Z aM ap => ?_))
 have aq : SH _ _ _ _ _ [obj Z [.slice a b c, .slice d f i] 26, _] := ap
 refine lv (rv_assign (v := .int .i64 0) rfl) (nr (mv rfl (mv rfl ?_)))
 obtain ⟨G, ar, au⟩ := ob hm
 have aa := aq.f1
 refine lc (vs := [.pointer (some ⟨g1, 2, none⟩), .int .i64 p3_id]) co79 ((ok_impl_Seg_doc__ofGScorer1 F) aa.e1 ag ah ai aj ao ar) ?_
 rintro aN aO ⟨H, I, J, O, R, S, ab, rfl, X, aw, ax, ay⟩
 refine ⟨_, rfl, ?_⟩
 have az := (aa.c1 X).t2
 refine mv rfl (lv (rv_extract rfl rfl) (lv (rv_extract rfl rfl) (al tf71 az fun ac aP aA => ?_)))
 have aB : SH _ _ _ _ _ [obj ac [.int .i64 0, .slice none 0 0, .slice none 0 0] 71, _, _] := aA
 refine ls [.int .i64 G.1.Id, .slice H I J, .slice O R S] (.agg #[.int .i64 G.1.Id, .slice H I J, .slice O R S]) tf71 aB fun aQ ad => (av rfl (nsr (mv rfl (lv (rv_not rfl) (nq (wcc au rfl (fun aC Y => ?_) (fun aC Y => ?_)))))))
 ·refine sr (lv (rv_assign (v := .int .i64 0) rfl) (nq (rr ?_)))
  obtain rfl := oi Y
  have aD := ad.sb (sd (sk (sd sz)))
  exact er Tryz.results96 ⟨rfl, trivial⟩ ⟨ab, rfl, aD, (by decide : rng64 0)⟩
 refine wc_skip (qs ?_)
 have T := ad.drew
 refine wh1 (fun w' => Holds ab w' ∧ HasObj Z [.slice a b c, .slice d f i] w' ∧ HasObj ac [.int .i64 G.1.Id, .slice H I J, .slice O R S] w') (fun w' => True) 7 [] mixed ⟨T.hasK (KLe.refl _), T.hasObj m2, T.hasObj m0⟩ (fun _ => trivial) (gh (fun _ h => rh_loadmS (ds := [.slice a b c, .slice d f i]) tf26 rfl rfl rfl h.2.1) (gh (fun _ h => rh_loadmS (ds := [.int .i64 G.1.Id, .slice H I J, .slice O R S]) tf71 rfl rfl rfl h.2.2) (gt (rv_move rfl) (gn ?_))))
 obtain ⟨aE, aF, aG⟩ := ob Y
 refine lc (vs := [.agg #[.int .i64 G.1.Id, .slice H I J, .slice O R S], sv p2_field]) co147 ((ok_impl_DocField F) T.enter0 aw ax ay an aF) ?_
 rintro aR aS ⟨aT, rfl, U, aH⟩
 refine ⟨_, rfl, ?_⟩
 have V := (T.c0 U).t3
 refine wl_nil (qh ⟨V.hasK U.le, V.hasObj m2, V.hasObj m0⟩ (fun _ => trivial) (gn ?_))
 obtain ⟨aU, aI, aJ⟩ := ob aG
 refine lc (vs := [.agg #[.slice a b c, .slice d f i], sv aE]) co78 ((ok_impl_TermsOf F) V.enter0 (ak.mono (X.le.trans U.le)) (am.mono (X.le.trans U.le)) aH aI) ?_
 rintro aV aW ⟨aX, aY, aZ, aK, rfl, ae, af⟩
 refine ⟨_, rfl, ?_⟩
 have W := (V.c0 ae).t4
 refine wl_nil (qh ⟨W.hasK (U.le.trans ae.le), W.hasObj m3, W.hasObj m1⟩ (fun _ => trivial) (gt (rv_len (t := tGTerm) Tryz.underlying127 rfl af) (gt (rv_assign rfl) (gd' (qe_seq (wc_ret ?_))))))
 obtain rfl := oi aJ
 have aL := W.sb (sd (sd (sk (sd sz))))
 exact er Tryz.results96 ⟨rfl, trivial⟩ ⟨aK, rfl, aL, (rng_nat (SliceAt.max af))⟩

set_option maxHeartbeats 2000000 in
theorem ok_impl_scorer_points (F : Nat) {w : World} {K : KMap} {g1 : Nat} {f : Option Addr} {k m : Nat} {o : Option Addr} {q s : Nat} {y : Option Addr} {A B : Nat} {D : Option Addr} {G H : Nat} {p0_x : GScorer} {p1_field : Str} {p2_term : Str} {p3_id : Int} {r : Int} (hS : SH w K (List.flatMap Item.gs [obj g1 [.slice f k m, .slice o q s, .slice y A B, .slice D G H] 80]) w K [obj g1 [.slice f k m, .slice o q s, .slice y A B, .slice D G H] 80]) (O : SliceAt tStr K f k m p0_x.c_.Stops) (R : SliceAt tGSyn K o q s p0_x.c_.Syns) (I : SliceAt tGDoc K y A B p0_x.s_.Docs) (ae : SliceAt tGEntry K D G H p0_x.s_.Entries) (af : p1_field.length ≤ maxLen) (aD : p2_term.length ≤ maxLen) (aR : rng64 p3_id) (hm : M.impl_scorer_points F p0_x p1_field p2_term p3_id = some r) :
  Calls Tryz.prog 70 #[.pointer (some ⟨g1, 0, none⟩), sv p1_field, sv p2_term, .int .i64 p3_id] w fun e w' => ∃ (K' : KMap), e = .returned (.int .i64 r) ∧ SH w K (List.flatMap Item.gs [obj g1 [.slice f k m, .slice o q s, .slice y A B, .slice D G H] 80]) w' K' [obj g1 [.slice f k m, .slice o q s, .slice y A B, .slice D G H] 80] ∧ rng64 r := by
 rw [M.impl_scorer_points] at hm
 refine calls_in Tryz.func70 rfl Tryz.ntmps70 rfl (sr (lv (rv_assign (v := .int .i64 0) rfl) (nr (mv rfl (mv rfl (mv rfl (mv rfl ?_)))))))
 obtain ⟨aE, bm, bn⟩ := ob hm
 refine lc (vs := [pt g1, sv p1_field, sv p2_term, .int .i64 p3_id]) co114 ((ok_impl_scorer_places F) hS.e1 O R I ae af aD aR bm) ?_
 rintro ch ci ⟨a5, a7, a8, aF, rfl, b, ah⟩
 refine ⟨_, rfl, ?_⟩
 have aS := (hS.c1 b).t1
 refine av rfl (nsr (mv rfl (lv (rv_len (t := tInt) Tryz.underlying39 rfl ah) (lv (rv_eql rfl rfl) (nq (wcc bn rfl (fun bo aT => ?_) (fun bo aT => ?_)))))))
 ·refine sr (lv (rv_assign (v := .int .i64 0) rfl) (nq (rr ?_)))
  obtain rfl := oi aT
  exact er Tryz.results70 ⟨rfl, trivial⟩ ⟨aF, rfl, aS, (by decide : rng64 0)⟩
 refine wc_skip (qr (lv (rv_assign (v := .int .i64 0) rfl) (nsr (mv rfl (lv (rv_nilCheck rfl) (fa ff80_1 rfl (fa ff30_0 rfl (lv (rv_loadm1 tf27 rfl m0 aS rfl) (lv (rv_len (t := tGDoc) Tryz.underlying27 rfl (I.mono b.le)) ?_)))))))))
 refine lv (rv_move (v := .int .i64 0) rfl) (nq ?_)
 obtain ⟨ai, bp, bq⟩ := ob aT
 refine wc_cutg (fun E' w' => ∃ ao, E' = [(0, pt g1), (1, sv p1_field), (2, sv p2_term), (3, .int .i64 p3_id), (9, .slice a5 a7 a8), (10, .int .i64 ai)] ∧ SH w K (List.flatMap Item.gs [obj g1 [.slice f k m, .slice o q s, .slice y A B, .slice D G H] 80]) w' ao [obj g1 [.slice f k m, .slice o q s, .slice y A B, .slice D G H] 80] ∧ KLe aF ao ∧ rng64 ai) ?_ ?_
 ·refine wc_block ?_
  obtain ⟨cj, br, bs⟩ := ob bp
  refine qF (fun (a9 : Nat) (aG : Int) E' w' => ∃ aj, E' = [(0, pt g1), (1, sv p1_field), (2, sv p2_term), (3, .int .i64 p3_id), (9, .slice a5 a7 a8), (10, .int .i64 aG), (27, .slice y A B), (28, .int .i64 (p0_x.s_.Docs.length : Int)), (29, .int .i64 ((a9 : Nat) : Int))] ∧ SH w K (List.flatMap Item.gs [obj g1 [.slice f k m, .slice o q s, .slice y A B, .slice D G H] 80]) w' aj [obj g1 [.slice f k m, .slice o q s, .slice y A B, .slice D G H] 80] ∧ KLe aF aj ∧ rng64 aG) br ⟨aF, rfl, aS, (KLe.refl _), (by decide : rng64 0)⟩ ?_ ?_
  ·rintro a9 aG _ bt ck hi54 bu ⟨aj, rfl, aH, S, ba⟩
   refine sr (lv (rv_lss rfl rfl) (ns (wc_cond_t rfl (decide_eq_true (by omega)) (wc_skip (qe_seq (wc_seq (wc_block (sr ?_))))))))
   obtain ⟨ak, bv, bw⟩ := ob bu
   refine li Tryz.underlying27 tf71 (I.mono (b.le.trans S)) bv fun bx bz cl bA bB => ?_
   obtain ⟨ap, aq, ar, au, aw, ax, rfl, bC, cm, cn⟩ := bA
   have bD : AtK _ bx bz [.int .i64 ak.Id, .slice ap aq ar, .slice au aw ax] := bB
   refine lv (rv_loadS (cs := [.int .i64 ak.Id, .slice ap aq ar, .slice au aw ax]) tf71 rfl aH bD rfl) (al tf71 aH fun bb cp bE => ?_)
   have bF : SH _ _ _ _ _ [obj bb [.int .i64 0, .slice none 0 0, .slice none 0 0] 71, _] := bE
   refine ls [.int .i64 ak.Id, .slice ap aq ar, .slice au aw ax] (.agg #[.int .i64 ak.Id, .slice ap aq ar, .slice au aw ax]) tf71 bF fun cq bG => (nq ?_)
   have aI := bG.drew
   refine wh1 (fun w' => Holds aj w' ∧ HasObj g1 [.slice f k m, .slice o q s, .slice y A B, .slice D G H] w' ∧ HasObj bb [.int .i64 ak.Id, .slice ap aq ar, .slice au aw ax] w') (fun w' => True) 14 [] mixed ⟨aI.hasK (KLe.refl _), aI.hasObj m1, aI.hasObj m0⟩ (fun _ => trivial) (gt (rv_move rfl) (gt (rv_move rfl) (gt (rv_nilCheck rfl) (gt (rv_fieldAddr ff80_1 rfl) (gt (rv_move rfl) (gt (rv_nilCheck rfl) (gt (rv_fieldAddr ff80_0 rfl) (gh (fun _ h => rh_loadmS (ds := [.slice f k m, .slice o q s]) tf26 rfl rfl rfl h.2.1) (gt (rv_move rfl) ?_)))))))))
   refine gt (rv_fieldAddr ff71_0 rfl) (gh (fun _ h => rh_loadm1 tf3 rfl rfl h.2.2) (gn ?_))
   obtain ⟨cr, bH, bI⟩ := ob bw
   have bc := aI.f1
   refine lc (vs := [.pointer (some ⟨g1, 2, none⟩), .agg #[.slice f k m, .slice o q s], sv p1_field, .int .i64 ak.Id]) co96 ((ok_impl_Seg_long__ofGScorer1 F) bc.e1 (O.mono (b.le.trans S)) (R.mono (b.le.trans S)) (I.mono (b.le.trans S)) (ae.mono (b.le.trans S)) (O.mono (b.le.trans S)) (R.mono (b.le.trans S)) af bC bH) ?_
   rintro ct cu ⟨bJ, rfl, aU, cv⟩
   refine ⟨_, rfl, ?_⟩
   have aJ := (bc.c1 aU).t2
   refine wl_nil (qh ⟨aJ.hasK aU.le, aJ.hasObj m0, aJ.hasObj m1⟩ (fun _ => trivial) (gt (rv_add rfl rfl) (gt (rv_assign rfl) (gd' (qe_block (qg (lv (rv_add_to rfl rfl (w64_succ hi54 (SliceAt.max (I.mono b.le)))) (mv rfl (wl_nil ?_)))))))))
   obtain rfl := oi bI
   have bK := aJ.sb (sk (sd sz))
   exact qd ⟨bJ, rfl, bK, (S.trans aU.le), (w64_rng _)⟩
  rintro aG _ bt bL ⟨aj, rfl, aH, S, ba⟩
  subst bL
  refine sr (lv (rv_lss rfl rfl) (ns (wc_cond_f rfl (decide_eq_false (by omega)) (wc_exit (qe_then_exit (qe_then_exit (qe_block_eq ?_)))))))
  obtain rfl := oi bs
  exact qd ⟨aj, rfl, aH, S, ba⟩
 rintro _ cw ⟨ao, rfl, bM, d, aK⟩
 refine qs ?_
 obtain ⟨aa, bN, bO⟩ := ob bq
 refine wc_cutg (fun E' w' => ∃ aV aW, E' = [(0, pt g1), (13, pt aV)] ∧ SH w K (List.flatMap Item.gs [obj g1 [.slice f k m, .slice o q s, .slice y A B, .slice D G H] 80]) w' aW [obj aV [.int .i64 aa.Up, .int .i64 aa.Down] 92, obj g1 [.slice f k m, .slice o q s, .slice y A B, .slice D G H] 80] ∧ KLe ao aW ∧ rng64 aa.Up ∧ rng64 aa.Down) ?_ ?_
 ·obtain ⟨aL, bd, bP⟩ := ob bN
  obtain ⟨aM, aX, bQ⟩ := ob bP
  obtain ⟨C, aN, aO⟩ := ob bQ
  refine wc_held (fun w' => Holds ao w' ∧ HasObj g1 [.slice f k m, .slice o q s, .slice y A B, .slice D G H] w') (fun w' => True) 33 [] mixed ?_
  have a := bM.drew
  refine wg_val (i := 0) (listed' := #[true, false, false, false, false, false, false, false, false, false, false, false, false, false, false, false, false, false, false, false, false, false, false, false, false, false, false, false, false, false, false, false, false]) (fun _ => True) rfl (by kernel_rfl) (pk_then (pk_then pk_body)) (by kernel_rfl) rfl (by kernel_rfl) (by kernel_rfl) rfl (.inl fun _ _ => trivial) ⟨⟨a.hasK (KLe.refl _), a.hasObj m0⟩, (fun _ => trivial), by decide⟩ wn rfl (fun _ _ => (rv_move rfl)) (wg_val (i := 1) (listed' := #[true, true, false, false, false, false, false, false, false, false, false, false, false, false, false, false, false, false, false, false, false, false, false, false, false, false, false, false, false, false, false, false, false]) (fun _ => True) rfl (by kernel_rfl) (pk_then (pk_then pk_body)) (by kernel_rfl) rfl (by kernel_rfl) (by kernel_rfl) rfl (.inl fun _ _ => trivial) ⟨⟨a.hasK (KLe.refl _), a.hasObj m0⟩, (fun _ => trivial), by decide⟩ wn rfl (fun _ _ => (rv_len (t := tInt) Tryz.underlying39 rfl (ah.mono d))) ?_)
  refine wg_val (i := 2) (listed' := #[true, true, true, false, false, false, false, false, false, false, false, false, false, false, false, false, false, false, false, false, false, false, false, false, false, false, false, false, false, false, false, false, false]) (fun _ => True) rfl (by kernel_rfl) (pk_then (pk_then pk_body)) (by kernel_rfl) rfl (by kernel_rfl) (by kernel_rfl) rfl (.inl fun _ _ => trivial) ⟨⟨a.hasK (KLe.refl _), a.hasObj m0⟩, (fun _ => trivial), by decide⟩ wn rfl (fun _ _ => (rv_move rfl)) (wg_val (i := 3) (listed' := #[true, true, true, true, false, false, false, false, false, false, false, false, false, false, false, false, false, false, false, false, false, false, false, false, false, false, false, false, false, false, false, false, false]) (fun _ => True) rfl (by kernel_rfl) (pk_then (pk_then pk_body)) (by kernel_rfl) rfl (by kernel_rfl) (by kernel_rfl) rfl (.inl fun _ _ => trivial) ⟨⟨a.hasK (KLe.refl _), a.hasObj m0⟩, (fun _ => trivial), by decide⟩ wn rfl (fun _ _ => (rv_nilCheck rfl)) ?_)
  refine wg_val (i := 4) (listed' := #[true, true, true, true, true, false, false, false, false, false, false, false, false, false, false, false, false, false, false, false, false, false, false, false, false, false, false, false, false, false, false, false, false]) (fun _ => True) rfl (by kernel_rfl) (pk_then (pk_then pk_body)) (by kernel_rfl) rfl (by kernel_rfl) (by kernel_rfl) rfl (.inl fun _ _ => trivial) ⟨⟨a.hasK (KLe.refl _), a.hasObj m0⟩, (fun _ => trivial), by decide⟩ wn rfl (fun _ _ => (rv_fieldAddr ff80_1 rfl)) (wg_val (i := 5) (listed' := #[true, true, true, true, true, true, false, false, false, false, false, false, false, false, false, false, false, false, false, false, false, false, false, false, false, false, false, false, false, false, false, false, false]) (fun _ => True) rfl (by kernel_rfl) (pk_then (pk_then pk_body)) (by kernel_rfl) rfl (by kernel_rfl) (by kernel_rfl) rfl (.inl fun _ _ => trivial) ⟨⟨a.hasK (KLe.refl _), a.hasObj m0⟩, (fun _ => trivial), by decide⟩ wn rfl (fun _ _ => (rv_move rfl)) ?_)
  refine wg_val (i := 6) (listed' := #[true, true, true, true, true, true, true, false, false, false, false, false, false, false, false, false, false, false, false, false, false, false, false, false, false, false, false, false, false, false, false, false, false]) (fun _ => True) rfl (by kernel_rfl) (pk_then (pk_then pk_body)) (by kernel_rfl) rfl (by kernel_rfl) (by kernel_rfl) rfl (.inl fun _ _ => trivial) ⟨⟨a.hasK (KLe.refl _), a.hasObj m0⟩, (fun _ => trivial), by decide⟩ wn rfl (fun _ _ => (rv_nilCheck rfl)) (wg_val (i := 7) (listed' := #[true, true, true, true, true, true, true, true, false, false, false, false, false, false, false, false, false, false, false, false, false, false, false, false, false, false, false, false, false, false, false, false, false]) (fun _ => True) rfl (by kernel_rfl) (pk_then (pk_then pk_body)) (by kernel_rfl) rfl (by kernel_rfl) (by kernel_rfl) rfl (.inl fun _ _ => trivial) ⟨⟨a.hasK (KLe.refl _), a.hasObj m0⟩, (fun _ => trivial), by decide⟩ wn rfl (fun _ _ => (rv_fieldAddr ff80_0 rfl)) ?_)
  refine wg_val (i := 8) (listed' := #[true, true, true, true, true, true, true, true, true, false, false, false, false, false, false, false, false, false, false, false, false, false, false, false, false, false, false, false, false, false, false, false, false]) (HasObj g1 [.slice f k m, .slice o q s, .slice y A B, .slice D G H]) rfl (by kernel_rfl) (pk_then (pk_then pk_body)) (by kernel_rfl) rfl (by kernel_rfl) (by kernel_rfl) rfl (.inl fun _ h => h.2) ⟨⟨a.hasK (KLe.refl _), a.hasObj m0⟩, (fun _ => trivial), by decide⟩ wn rfl (fun _ h => rh_loadmS (ds := [.slice f k m, .slice o q s]) tf26 rfl rfl rfl h) (wg_val (i := 9) (listed' := #[true, true, true, true, true, true, true, true, true, true, false, false, false, false, false, false, false, false, false, false, false, false, false, false, false, false, false, false, false, false, false, false, false]) (fun _ => True) rfl (by kernel_rfl) (pk_then (pk_then pk_body)) (by kernel_rfl) rfl (by kernel_rfl) (by kernel_rfl) rfl (.inl fun _ _ => trivial) ⟨⟨a.hasK (KLe.refl _), a.hasObj m0⟩, (fun _ => trivial), by decide⟩ wn rfl (fun _ _ => (rv_move rfl)) ?_)
  refine wg_val (i := 10) (listed' := #[true, true, true, true, true, true, true, true, true, true, true, false, false, false, false, false, false, false, false, false, false, false, false, false, false, false, false, false, false, false, false, false, false]) (fun _ => True) rfl (by kernel_rfl) (pk_then (pk_then pk_body)) (by kernel_rfl) rfl (by kernel_rfl) (by kernel_rfl) rfl (.inl fun _ _ => trivial) ⟨⟨a.hasK (KLe.refl _), a.hasObj m0⟩, (fun _ => trivial), by decide⟩ wn rfl (fun _ _ => (rv_move rfl)) (wg_val (i := 12) (listed' := #[true, true, true, true, true, true, true, true, true, true, true, false, true, false, false, false, false, false, false, false, false, false, false, false, false, false, false, false, false, false, false, false, false]) (fun _ => True) rfl (by kernel_rfl) (pk_then (pk_then pk_body)) (by kernel_rfl) rfl (by kernel_rfl) (by kernel_rfl) rfl (.inl fun _ _ => trivial) ⟨⟨a.hasK (KLe.refl _), a.hasObj m0⟩, (fun _ => trivial), by decide⟩ wn rfl (fun _ _ => (rv_move rfl)) ?_)
  refine wg_val (i := 13) (listed' := #[true, true, true, true, true, true, true, true, true, true, true, false, true, true, false, false, false, false, false, false, false, false, false, false, false, false, false, false, false, false, false, false, false]) (fun _ => True) rfl (by kernel_rfl) (pk_then (pk_then pk_body)) (by kernel_rfl) rfl (by kernel_rfl) (by kernel_rfl) rfl (.inl fun _ _ => trivial) ⟨⟨a.hasK (KLe.refl _), a.hasObj m0⟩, (fun _ => trivial), by decide⟩ wn rfl (fun _ _ => (rv_move rfl)) (wg_val (i := 14) (listed' := #[true, true, true, true, true, true, true, true, true, true, true, false, true, true, true, false, false, false, false, false, false, false, false, false, false, false, false, false, false, false, false, false, false]) (fun _ => True) rfl (by kernel_rfl) (pk_then (pk_then pk_body)) (by kernel_rfl) rfl (by kernel_rfl) (by kernel_rfl) rfl (.inl fun _ _ => trivial) ⟨⟨a.hasK (KLe.refl _), a.hasObj m0⟩, (fun _ => trivial), by decide⟩ wn rfl (fun _ _ => (rv_nilCheck rfl)) ?_)
  refine wg_val (i := 15) (listed' := #[true, true, true, true, true, true, true, true, true, true, true, false, true, true, true, true, false, false, false, false, false, false, false, false, false, false, false, false, false, false, false, false, false]) (fun _ => True) rfl (by kernel_rfl) (pk_then (pk_then pk_body)) (by kernel_rfl) rfl (by kernel_rfl) (by kernel_rfl) rfl (.inl fun _ _ => trivial) ⟨⟨a.hasK (KLe.refl _), a.hasObj m0⟩, (fun _ => trivial), by decide⟩ wn rfl (fun _ _ => (rv_fieldAddr ff80_1 rfl)) (wg_val (i := 16) (listed' := #[true, true, true, true, true, true, true, true, true, true, true, false, true, true, true, true, true, false, false, false, false, false, false, false, false, false, false, false, false, false, false, false, false]) (fun _ => True) rfl (by kernel_rfl) (pk_then (pk_then pk_body)) (by kernel_rfl) rfl (by kernel_rfl) (by kernel_rfl) rfl (.inl fun _ _ => trivial) ⟨⟨a.hasK (KLe.refl _), a.hasObj m0⟩, (fun _ => trivial), by decide⟩ wn rfl (fun _ _ => (rv_fieldAddr ff30_0 rfl)) ?_)
  refine wg_val (i := 17) (listed' := #[true, true, true, true, true, true, true, true, true, true, true, false, true, true, true, true, true, true, false, false, false, false, false, false, false, false, false, false, false, false, false, false, false]) (HasObj g1 [.slice f k m, .slice o q s, .slice y A B, .slice D G H]) rfl (by kernel_rfl) (pk_then (pk_then pk_body)) (by kernel_rfl) rfl (by kernel_rfl) (by kernel_rfl) rfl (.inl fun _ h => h.2) ⟨⟨a.hasK (KLe.refl _), a.hasObj m0⟩, (fun _ => trivial), by decide⟩ wn rfl (fun _ h => rh_loadm1 tf27 rfl rfl h) (wg_val (i := 18) (listed' := #[true, true, true, true, true, true, true, true, true, true, true, false, true, true, true, true, true, true, true, false, false, false, false, false, false, false, false, false, false, false, false, false, false]) (fun _ => True) rfl (by kernel_rfl) (pk_then (pk_then pk_body)) (by kernel_rfl) rfl (by kernel_rfl) (by kernel_rfl) rfl (.inl fun _ _ => trivial) ⟨⟨a.hasK (KLe.refl _), a.hasObj m0⟩, (fun _ => trivial), by decide⟩ wn rfl (fun _ _ => (rv_len (t := tGDoc) Tryz.underlying27 rfl (I.mono (b.le.trans d)))) ?_)
  refine wg_val (i := 19) (listed' := #[true, true, true, true, true, true, true, true, true, true, true, false, true, true, true, true, true, true, true, true, false, false, false, false, false, false, false, false, false, false, false, false, false]) (fun _ => True) rfl (by kernel_rfl) (pk_then (pk_then pk_body)) (by kernel_rfl) rfl (by kernel_rfl) (by kernel_rfl) rfl (.inl fun _ _ => trivial) ⟨⟨a.hasK (KLe.refl _), a.hasObj m0⟩, (fun _ => trivial), by decide⟩ wn rfl (fun _ _ => (rv_move rfl)) (wg_val (i := 20) (listed' := #[true, true, true, true, true, true, true, true, true, true, true, false, true, true, true, true, true, true, true, true, true, false, false, false, false, false, false, false, false, false, false, false, false]) (fun _ => True) rfl (by kernel_rfl) (pk_then (pk_then pk_body)) (by kernel_rfl) rfl (by kernel_rfl) (by kernel_rfl) rfl (.inl fun _ _ => trivial) ⟨⟨a.hasK (KLe.refl _), a.hasObj m0⟩, (fun _ => trivial), by decide⟩ wn rfl (fun _ _ => (rv_nilCheck rfl)) ?_)
  refine wg_val (i := 21) (listed' := #[true, true, true, true, true, true, true, true, true, true, true, false, true, true, true, true, true, true, true, true, true, true, false, false, false, false, false, false, false, false, false, false, false]) (fun _ => True) rfl (by kernel_rfl) (pk_then (pk_then pk_body)) (by kernel_rfl) rfl (by kernel_rfl) (by kernel_rfl) rfl (.inl fun _ _ => trivial) ⟨⟨a.hasK (KLe.refl _), a.hasObj m0⟩, (fun _ => trivial), by decide⟩ wn rfl (fun _ _ => (rv_fieldAddr ff80_1 rfl)) (wg_val (i := 22) (listed' := #[true, true, true, true, true, true, true, true, true, true, true, false, true, true, true, true, true, true, true, true, true, true, true, false, false, false, false, false, false, false, false, false, false]) (fun _ => True) rfl (by kernel_rfl) (pk_then (pk_then pk_body)) (by kernel_rfl) rfl (by kernel_rfl) (by kernel_rfl) rfl (.inl fun _ _ => trivial) ⟨⟨a.hasK (KLe.refl _), a.hasObj m0⟩, (fun _ => trivial), by decide⟩ wn rfl (fun _ _ => (rv_move rfl)) ?_)
  refine wg_val (i := 23) (listed' := #[true, true, true, true, true, true, true, true, true, true, true, false, true, true, true, true, true, true, true, true, true, true, true, true, false, false, false, false, false, false, false, false, false]) (fun _ => True) rfl (by kernel_rfl) (pk_then (pk_then pk_body)) (by kernel_rfl) rfl (by kernel_rfl) (by kernel_rfl) rfl (.inl fun _ _ => trivial) ⟨⟨a.hasK (KLe.refl _), a.hasObj m0⟩, (fun _ => trivial), by decide⟩ wn rfl (fun _ _ => (rv_move rfl)) (wg_many (l := [11, 30]) (by kernel_rfl) rfl ⟨⟨_, rfl, ?_⟩, ⟨_, rfl, ?_⟩, trivial⟩)
  ·refine lc (vs := [.pointer (some ⟨g1, 2, none⟩), .agg #[.slice f k m, .slice o q s], sv p1_field, .int .i64 p3_id]) co96 ((ok_impl_Seg_long__ofGScorer1 F) a.e1 (O.mono (b.le.trans d)) (R.mono (b.le.trans d)) (I.mono (b.le.trans d)) (ae.mono (b.le.trans d)) (O.mono (b.le.trans d)) (R.mono (b.le.trans d)) af aR bd) ?_
   rintro cx cy ⟨cz, rfl, c, aY⟩
   refine ⟨_, rfl, ?_⟩
   have ay := (a.c1 c).t1
   refine wl_nil (qe_held (listed' := #[true, true, true, true, true, true, true, true, true, true, true, true, true, true, true, true, true, true, true, true, true, true, true, true, false, false, false, false, false, false, false, false, false]) rfl ⟨⟨ay.hasK c.le, ay.hasObj m0⟩, (fun _ => trivial), by decide⟩ (wg_many (l := [24, 30]) (by kernel_rfl) rfl ⟨⟨_, rfl, ?_⟩, ⟨_, rfl, ?_⟩, trivial⟩))
   ·refine lc (vs := [.pointer (some ⟨g1, 2, none⟩), sv p1_field, sv p2_term]) co44 ((ok_impl_Seg_posts__ofGScorer1 F) ay.e1 (O.mono ((b.le.trans d).trans c.le)) (R.mono ((b.le.trans d).trans c.le)) (I.mono ((b.le.trans d).trans c.le)) (ae.mono ((b.le.trans d).trans c.le)) af aD aX) ?_
    rintro cA cB ⟨cC, cD, cE, cF, rfl, x, aZ⟩
    refine ⟨_, rfl, ?_⟩
    have ag := (ay.c1 x).t1
    refine wl_nil (qe_held (listed' := #[true, true, true, true, true, true, true, true, true, true, true, true, true, true, true, true, true, true, true, true, true, true, true, true, true, false, false, false, false, false, false, false, false]) rfl ⟨⟨ag.hasK (c.le.trans x.le), ag.hasObj m0⟩, (fun _ => trivial), by decide⟩ (wg_val (i := 25) (listed' := #[true, true, true, true, true, true, true, true, true, true, true, true, true, true, true, true, true, true, true, true, true, true, true, true, true, true, false, false, false, false, false, false, false]) (fun _ => True) rfl (by kernel_rfl) (pk_then (pk_then pk_body)) (by kernel_rfl) rfl (by kernel_rfl) (by kernel_rfl) rfl (.inl fun _ _ => trivial) ⟨⟨ag.hasK (c.le.trans x.le), ag.hasObj m0⟩, (fun _ => trivial), by decide⟩ wn rfl (fun _ _ => (rv_len (t := tGPost) Tryz.underlying37 rfl aZ)) (wg_many (l := [26, 30]) (by kernel_rfl) rfl ⟨⟨_, rfl, ?_⟩, ⟨_, rfl, ?_⟩, trivial⟩)))
    ·refine lc (vs := [.int .i64 (aE.length : Int), .int .i64 aL, .int .i64 ai, .int .i64 (p0_x.s_.Docs.length : Int), .int .i64 (aM.length : Int)]) co46 ((ok_impl_TermScore F) ag.enter0 (rng_nat (SliceAt.max (ah.mono d))) aY aK (rng_nat (SliceAt.max (I.mono (b.le.trans d)))) (rng_nat (SliceAt.max aZ)) aN) ?_
     rintro cG cH ⟨bR, rfl, V, bS, bT⟩
     refine ⟨_, rfl, ?_⟩
     have W := (ag.c0 V).t1
     refine wl_nil (qe_held (listed' := #[true, true, true, true, true, true, true, true, true, true, true, true, true, true, true, true, true, true, true, true, true, true, true, true, true, true, true, false, false, false, false, false, false]) rfl ⟨⟨W.hasK ((c.le.trans x.le).trans V.le), W.hasObj m0⟩, (fun _ => trivial), by decide⟩ (wg_val (i := 27) (listed' := #[true, true, true, true, true, true, true, true, true, true, true, true, true, true, true, true, true, true, true, true, true, true, true, true, true, true, true, true, false, false, false, false, false]) (fun _ => True) rfl (by kernel_rfl) (pk_then (pk_then pk_body)) (by kernel_rfl) rfl (by kernel_rfl) (by kernel_rfl) rfl (.inl fun _ _ => trivial) ⟨⟨W.hasK ((c.le.trans x.le).trans V.le), W.hasObj m0⟩, (fun _ => trivial), by decide⟩ wn rfl (fun _ _ => (rv_move rfl)) ?_))
     refine wg_val (i := 28) (listed' := #[true, true, true, true, true, true, true, true, true, true, true, true, true, true, true, true, true, true, true, true, true, true, true, true, true, true, true, true, true, false, false, false, false]) (fun _ => True) rfl (by kernel_rfl) (pk_then (pk_then pk_body)) (by kernel_rfl) rfl (by kernel_rfl) (by kernel_rfl) rfl (.inl fun _ _ => trivial) ⟨⟨W.hasK ((c.le.trans x.le).trans V.le), W.hasObj m0⟩, (fun _ => trivial), by decide⟩ wn rfl (fun _ _ => (rv_extract rfl rfl)) (wg_val (i := 29) (listed' := #[true, true, true, true, true, true, true, true, true, true, true, true, true, true, true, true, true, true, true, true, true, true, true, true, true, true, true, true, true, true, false, false, false]) (fun _ => True) rfl (by kernel_rfl) (pk_then (pk_then pk_body)) (by kernel_rfl) rfl (by kernel_rfl) (by kernel_rfl) rfl (.inl fun _ _ => trivial) ⟨⟨W.hasK ((c.le.trans x.le).trans V.le), W.hasObj m0⟩, (fun _ => trivial), by decide⟩ wn rfl (fun _ _ => (rv_extract rfl rfl)) (wg_one (i := 30) (by kernel_rfl) rfl (al tf92 W fun be cI bU => ?_)))
     have a0 : SH _ _ _ _ _ [obj be [.int .i64 0, .int .i64 0] 92, _] := bU
     refine wl_nil (qe_held (listed' := #[true, true, true, true, true, true, true, true, true, true, true, true, true, true, true, true, true, true, true, true, true, true, true, true, true, true, true, true, true, true, true, false, false]) rfl ⟨⟨a0.hasK ((c.le.trans x.le).trans V.le), a0.hasObj m1⟩, (fun _ => trivial), by decide⟩ (wg_one (i := 31) (by kernel_rfl) rfl (ls [.int .i64 C.1.Up, .int .i64 C.1.Down] (.agg #[.int .i64 C.1.Up, .int .i64 C.1.Down]) tf92 a0 fun cJ az => (wl_nil (qe_held (listed' := #[true, true, true, true, true, true, true, true, true, true, true, true, true, true, true, true, true, true, true, true, true, true, true, true, true, true, true, true, true, true, true, true, false]) rfl ⟨⟨az.hasK ((c.le.trans x.le).trans V.le), az.hasObj m1⟩, (fun _ => trivial), by decide⟩ (wg_val (i := 32) (listed' := #[true, true, true, true, true, true, true, true, true, true, true, true, true, true, true, true, true, true, true, true, true, true, true, true, true, true, true, true, true, true, true, true, true]) (fun _ => True) rfl (by kernel_rfl) (pk_then (pk_then pk_body)) (by kernel_rfl) rfl (by kernel_rfl) (by kernel_rfl) rfl (.inl fun _ _ => trivial) ⟨⟨az.hasK ((c.le.trans x.le).trans V.le), az.hasObj m1⟩, (fun _ => trivial), by decide⟩ wn rfl (fun _ _ => (rv_assign rfl)) ?_))))))
     refine wg_done (by kernel_rfl) ?_
     obtain rfl := oi aO
     exact qd ⟨be, bR, rfl, az, ((c.le.trans x.le).trans V.le), bS, bT⟩
    refine al tf92 ag fun bf cK bV => ?_
    have aP : SH _ _ _ _ _ [obj bf [.int .i64 0, .int .i64 0] 92, _] := bV
    refine wl_nil (qe_held (listed' := #[true, true, true, true, true, true, true, true, true, true, true, true, true, true, true, true, true, true, true, true, true, true, true, true, true, true, false, false, false, false, true, false, false]) rfl ⟨⟨aP.hasK (c.le.trans x.le), aP.hasObj m1⟩, (fun _ => trivial), by decide⟩ (wg_one (i := 26) (by kernel_rfl) rfl (lc (vs := [.int .i64 (aE.length : Int), .int .i64 aL, .int .i64 ai, .int .i64 (p0_x.s_.Docs.length : Int), .int .i64 (aM.length : Int)]) co46 ((ok_impl_TermScore F) aP.enter0 (rng_nat (SliceAt.max (ah.mono d))) aY aK (rng_nat (SliceAt.max (I.mono (b.le.trans d)))) (rng_nat (SliceAt.max aZ)) aN) ?_)))
    rintro cL cM ⟨bW, rfl, ab, bX, bY⟩
    refine ⟨_, rfl, ?_⟩
    have X := (aP.c0 ab).t2
    refine wl_nil (qe_held (listed' := #[true, true, true, true, true, true, true, true, true, true, true, true, true, true, true, true, true, true, true, true, true, true, true, true, true, true, true, false, false, false, true, false, false]) rfl ⟨⟨X.hasK ((c.le.trans x.le).trans ab.le), X.hasObj m1⟩, (fun _ => trivial), by decide⟩ (wg_val (i := 27) (listed' := #[true, true, true, true, true, true, true, true, true, true, true, true, true, true, true, true, true, true, true, true, true, true, true, true, true, true, true, true, false, false, true, false, false]) (fun _ => True) rfl (by kernel_rfl) (pk_then (pk_then pk_body)) (by kernel_rfl) rfl (by kernel_rfl) (by kernel_rfl) rfl (.inl fun _ _ => trivial) ⟨⟨X.hasK ((c.le.trans x.le).trans ab.le), X.hasObj m1⟩, (fun _ => trivial), by decide⟩ wn rfl (fun _ _ => (rv_move rfl)) ?_))
    refine wg_val (i := 28) (listed' := #[true, true, true, true, true, true, true, true, true, true, true, true, true, true, true, true, true, true, true, true, true, true, true, true, true, true, true, true, true, false, true, false, false]) (fun _ => True) rfl (by kernel_rfl) (pk_then (pk_then pk_body)) (by kernel_rfl) rfl (by kernel_rfl) (by kernel_rfl) rfl (.inl fun _ _ => trivial) ⟨⟨X.hasK ((c.le.trans x.le).trans ab.le), X.hasObj m1⟩, (fun _ => trivial), by decide⟩ wn rfl (fun _ _ => (rv_extract rfl rfl)) (wg_val (i := 29) (listed' := #[true, true, true, true, true, true, true, true, true, true, true, true, true, true, true, true, true, true, true, true, true, true, true, true, true, true, true, true, true, true, true, false, false]) (fun _ => True) rfl (by kernel_rfl) (pk_then (pk_then pk_body)) (by kernel_rfl) rfl (by kernel_rfl) (by kernel_rfl) rfl (.inl fun _ _ => trivial) ⟨⟨X.hasK ((c.le.trans x.le).trans ab.le), X.hasObj m1⟩, (fun _ => trivial), by decide⟩ wn rfl (fun _ _ => (rv_extract rfl rfl)) (wg_one (i := 31) (by kernel_rfl) rfl (ls [.int .i64 C.1.Up, .int .i64 C.1.Down] (.agg #[.int .i64 C.1.Up, .int .i64 C.1.Down]) tf92 X fun cN aA => ?_)))
    refine wl_nil (qe_held (listed' := #[true, true, true, true, true, true, true, true, true, true, true, true, true, true, true, true, true, true, true, true, true, true, true, true, true, true, true, true, true, true, true, true, false]) rfl ⟨⟨aA.hasK ((c.le.trans x.le).trans ab.le), aA.hasObj m1⟩, (fun _ => trivial), by decide⟩ (wg_val (i := 32) (listed' := #[true, true, true, true, true, true, true, true, true, true, true, true, true, true, true, true, true, true, true, true, true, true, true, true, true, true, true, true, true, true, true, true, true]) (fun _ => True) rfl (by kernel_rfl) (pk_then (pk_then pk_body)) (by kernel_rfl) rfl (by kernel_rfl) (by kernel_rfl) rfl (.inl fun _ _ => trivial) ⟨⟨aA.hasK ((c.le.trans x.le).trans ab.le), aA.hasObj m1⟩, (fun _ => trivial), by decide⟩ wn rfl (fun _ _ => (rv_assign rfl)) (wg_done (by kernel_rfl) ?_)))
    obtain rfl := oi aO
    exact qd ⟨bf, bW, rfl, aA, ((c.le.trans x.le).trans ab.le), bX, bY⟩
   refine al tf92 ay fun bg cO bZ => ?_
   have a1 : SH _ _ _ _ _ [obj bg [.int .i64 0, .int .i64 0] 92, _] := bZ
   refine wl_nil (qe_held (listed' := #[true, true, true, true, true, true, true, true, true, true, true, true, true, true, true, true, true, true, true, true, true, true, true, true, false, false, false, false, false, false, true, false, false]) rfl ⟨⟨a1.hasK c.le, a1.hasObj m1⟩, (fun _ => trivial), by decide⟩ (wg_one (i := 24) (by kernel_rfl) rfl ?_))
   have bh := a1.f1
   refine lc (vs := [.pointer (some ⟨g1, 2, none⟩), sv p1_field, sv p2_term]) co44 ((ok_impl_Seg_posts__ofGScorer1 F) bh.e1 (O.mono ((b.le.trans d).trans c.le)) (R.mono ((b.le.trans d).trans c.le)) (I.mono ((b.le.trans d).trans c.le)) (ae.mono ((b.le.trans d).trans c.le)) af aD aX) ?_
   rintro cP cQ ⟨cR, cS, cT, cU, rfl, T, bi⟩
   refine ⟨_, rfl, ?_⟩
   have am := (bh.c1 T).t2
   refine wl_nil (qe_held (listed' := #[true, true, true, true, true, true, true, true, true, true, true, true, true, true, true, true, true, true, true, true, true, true, true, true, true, false, false, false, false, false, true, false, false]) rfl ⟨⟨am.hasK (c.le.trans T.le), am.hasObj m0⟩, (fun _ => trivial), by decide⟩ (wg_val (i := 25) (listed' := #[true, true, true, true, true, true, true, true, true, true, true, true, true, true, true, true, true, true, true, true, true, true, true, true, true, true, false, false, false, false, true, false, false]) (fun _ => True) rfl (by kernel_rfl) (pk_then (pk_then pk_body)) (by kernel_rfl) rfl (by kernel_rfl) (by kernel_rfl) rfl (.inl fun _ _ => trivial) ⟨⟨am.hasK (c.le.trans T.le), am.hasObj m0⟩, (fun _ => trivial), by decide⟩ wn rfl (fun _ _ => (rv_len (t := tGPost) Tryz.underlying37 rfl bi)) (wg_one (i := 26) (by kernel_rfl) rfl (lc (vs := [.int .i64 (aE.length : Int), .int .i64 aL, .int .i64 ai, .int .i64 (p0_x.s_.Docs.length : Int), .int .i64 (aM.length : Int)]) co46 ((ok_impl_TermScore F) am.enter0 (rng_nat (SliceAt.max (ah.mono d))) aY aK (rng_nat (SliceAt.max (I.mono (b.le.trans d)))) (rng_nat (SliceAt.max bi)) aN) ?_))))
   rintro cV cW ⟨b0, rfl, ac, b1, b2⟩
   refine ⟨_, rfl, ?_⟩
   have Y := (am.c0 ac).t2
   refine wl_nil (qe_held (listed' := #[true, true, true, true, true, true, true, true, true, true, true, true, true, true, true, true, true, true, true, true, true, true, true, true, true, true, true, false, false, false, true, false, false]) rfl ⟨⟨Y.hasK ((c.le.trans T.le).trans ac.le), Y.hasObj m0⟩, (fun _ => trivial), by decide⟩ (wg_val (i := 27) (listed' := #[true, true, true, true, true, true, true, true, true, true, true, true, true, true, true, true, true, true, true, true, true, true, true, true, true, true, true, true, false, false, true, false, false]) (fun _ => True) rfl (by kernel_rfl) (pk_then (pk_then pk_body)) (by kernel_rfl) rfl (by kernel_rfl) (by kernel_rfl) rfl (.inl fun _ _ => trivial) ⟨⟨Y.hasK ((c.le.trans T.le).trans ac.le), Y.hasObj m0⟩, (fun _ => trivial), by decide⟩ wn rfl (fun _ _ => (rv_move rfl)) ?_))
   refine wg_val (i := 28) (listed' := #[true, true, true, true, true, true, true, true, true, true, true, true, true, true, true, true, true, true, true, true, true, true, true, true, true, true, true, true, true, false, true, false, false]) (fun _ => True) rfl (by kernel_rfl) (pk_then (pk_then pk_body)) (by kernel_rfl) rfl (by kernel_rfl) (by kernel_rfl) rfl (.inl fun _ _ => trivial) ⟨⟨Y.hasK ((c.le.trans T.le).trans ac.le), Y.hasObj m0⟩, (fun _ => trivial), by decide⟩ wn rfl (fun _ _ => (rv_extract rfl rfl)) (wg_val (i := 29) (listed' := #[true, true, true, true, true, true, true, true, true, true, true, true, true, true, true, true, true, true, true, true, true, true, true, true, true, true, true, true, true, true, true, false, false]) (fun _ => True) rfl (by kernel_rfl) (pk_then (pk_then pk_body)) (by kernel_rfl) rfl (by kernel_rfl) (by kernel_rfl) rfl (.inl fun _ _ => trivial) ⟨⟨Y.hasK ((c.le.trans T.le).trans ac.le), Y.hasObj m0⟩, (fun _ => trivial), by decide⟩ wn rfl (fun _ _ => (rv_extract rfl rfl)) (wg_one (i := 31) (by kernel_rfl) rfl (ls [.int .i64 C.1.Up, .int .i64 C.1.Down] (.agg #[.int .i64 C.1.Up, .int .i64 C.1.Down]) tf92 Y.f1 fun cX aB => ?_)))
   refine wl_nil (qe_held (listed' := #[true, true, true, true, true, true, true, true, true, true, true, true, true, true, true, true, true, true, true, true, true, true, true, true, true, true, true, true, true, true, true, true, false]) rfl ⟨⟨aB.hasK ((c.le.trans T.le).trans ac.le), aB.hasObj m1⟩, (fun _ => trivial), by decide⟩ (wg_val (i := 32) (listed' := #[true, true, true, true, true, true, true, true, true, true, true, true, true, true, true, true, true, true, true, true, true, true, true, true, true, true, true, true, true, true, true, true, true]) (fun _ => True) rfl (by kernel_rfl) (pk_then (pk_then pk_body)) (by kernel_rfl) rfl (by kernel_rfl) (by kernel_rfl) rfl (.inl fun _ _ => trivial) ⟨⟨aB.hasK ((c.le.trans T.le).trans ac.le), aB.hasObj m1⟩, (fun _ => trivial), by decide⟩ wn rfl (fun _ _ => (rv_assign rfl)) (wg_done (by kernel_rfl) ?_)))
   obtain rfl := oi aO
   exact qd ⟨bg, b0, rfl, aB, ((c.le.trans T.le).trans ac.le), b1, b2⟩
  refine al tf92 a fun bj cY b3 => ?_
  have a3 : SH _ _ _ _ _ [obj bj [.int .i64 0, .int .i64 0] 92, _] := b3
  refine wl_nil (qe_held (listed' := #[true, true, true, true, true, true, true, true, true, true, true, false, true, true, true, true, true, true, true, true, true, true, true, true, false, false, false, false, false, false, true, false, false]) rfl ⟨⟨a3.hasK (KLe.refl _), a3.hasObj m1⟩, (fun _ => trivial), by decide⟩ (wg_one (i := 11) (by kernel_rfl) rfl ?_))
  have bk := a3.f1
  refine lc (vs := [.pointer (some ⟨g1, 2, none⟩), .agg #[.slice f k m, .slice o q s], sv p1_field, .int .i64 p3_id]) co96 ((ok_impl_Seg_long__ofGScorer1 F) bk.e1 (O.mono (b.le.trans d)) (R.mono (b.le.trans d)) (I.mono (b.le.trans d)) (ae.mono (b.le.trans d)) (O.mono (b.le.trans d)) (R.mono (b.le.trans d)) af aR bd) ?_
  rintro cZ c0 ⟨c1, rfl, J, b4⟩
  refine ⟨_, rfl, ?_⟩
  have aQ := (bk.c1 J).t2
  refine wl_nil (qe_held (listed' := #[true, true, true, true, true, true, true, true, true, true, true, true, true, true, true, true, true, true, true, true, true, true, true, true, false, false, false, false, false, false, true, false, false]) rfl ⟨⟨aQ.hasK J.le, aQ.hasObj m0⟩, (fun _ => trivial), by decide⟩ (wg_one (i := 24) (by kernel_rfl) rfl (lc (vs := [.pointer (some ⟨g1, 2, none⟩), sv p1_field, sv p2_term]) co44 ((ok_impl_Seg_posts__ofGScorer1 F) aQ.e1 (O.mono ((b.le.trans d).trans J.le)) (R.mono ((b.le.trans d).trans J.le)) (I.mono ((b.le.trans d).trans J.le)) (ae.mono ((b.le.trans d).trans J.le)) af aD aX) ?_)))
  rintro c2 c3 ⟨c5, c6, c7, c9, rfl, U, bl⟩
  refine ⟨_, rfl, ?_⟩
  have an := (aQ.c1 U).t2
  refine wl_nil (qe_held (listed' := #[true, true, true, true, true, true, true, true, true, true, true, true, true, true, true, true, true, true, true, true, true, true, true, true, true, false, false, false, false, false, true, false, false]) rfl ⟨⟨an.hasK (J.le.trans U.le), an.hasObj m0⟩, (fun _ => trivial), by decide⟩ (wg_val (i := 25) (listed' := #[true, true, true, true, true, true, true, true, true, true, true, true, true, true, true, true, true, true, true, true, true, true, true, true, true, true, false, false, false, false, true, false, false]) (fun _ => True) rfl (by kernel_rfl) (pk_then (pk_then pk_body)) (by kernel_rfl) rfl (by kernel_rfl) (by kernel_rfl) rfl (.inl fun _ _ => trivial) ⟨⟨an.hasK (J.le.trans U.le), an.hasObj m0⟩, (fun _ => trivial), by decide⟩ wn rfl (fun _ _ => (rv_len (t := tGPost) Tryz.underlying37 rfl bl)) (wg_one (i := 26) (by kernel_rfl) rfl (lc (vs := [.int .i64 (aE.length : Int), .int .i64 aL, .int .i64 ai, .int .i64 (p0_x.s_.Docs.length : Int), .int .i64 (aM.length : Int)]) co46 ((ok_impl_TermScore F) an.enter0 (rng_nat (SliceAt.max (ah.mono d))) b4 aK (rng_nat (SliceAt.max (I.mono (b.le.trans d)))) (rng_nat (SliceAt.max bl)) aN) ?_))))
  rintro da db ⟨b5, rfl, ad, b6, b7⟩
  refine ⟨_, rfl, ?_⟩
  have Z := (an.c0 ad).t2
  refine wl_nil (qe_held (listed' := #[true, true, true, true, true, true, true, true, true, true, true, true, true, true, true, true, true, true, true, true, true, true, true, true, true, true, true, false, false, false, true, false, false]) rfl ⟨⟨Z.hasK ((J.le.trans U.le).trans ad.le), Z.hasObj m0⟩, (fun _ => trivial), by decide⟩ (wg_val (i := 27) (listed' := #[true, true, true, true, true, true, true, true, true, true, true, true, true, true, true, true, true, true, true, true, true, true, true, true, true, true, true, true, false, false, true, false, false]) (fun _ => True) rfl (by kernel_rfl) (pk_then (pk_then pk_body)) (by kernel_rfl) rfl (by kernel_rfl) (by kernel_rfl) rfl (.inl fun _ _ => trivial) ⟨⟨Z.hasK ((J.le.trans U.le).trans ad.le), Z.hasObj m0⟩, (fun _ => trivial), by decide⟩ wn rfl (fun _ _ => (rv_move rfl)) ?_))
  refine wg_val (i := 28) (listed' := #[true, true, true, true, true, true, true, true, true, true, true, true, true, true, true, true, true, true, true, true, true, true, true, true, true, true, true, true, true, false, true, false, false]) (fun _ => True) rfl (by kernel_rfl) (pk_then (pk_then pk_body)) (by kernel_rfl) rfl (by kernel_rfl) (by kernel_rfl) rfl (.inl fun _ _ => trivial) ⟨⟨Z.hasK ((J.le.trans U.le).trans ad.le), Z.hasObj m0⟩, (fun _ => trivial), by decide⟩ wn rfl (fun _ _ => (rv_extract rfl rfl)) (wg_val (i := 29) (listed' := #[true, true, true, true, true, true, true, true, true, true, true, true, true, true, true, true, true, true, true, true, true, true, true, true, true, true, true, true, true, true, true, false, false]) (fun _ => True) rfl (by kernel_rfl) (pk_then (pk_then pk_body)) (by kernel_rfl) rfl (by kernel_rfl) (by kernel_rfl) rfl (.inl fun _ _ => trivial) ⟨⟨Z.hasK ((J.le.trans U.le).trans ad.le), Z.hasObj m0⟩, (fun _ => trivial), by decide⟩ wn rfl (fun _ _ => (rv_extract rfl rfl)) (wg_one (i := 31) (by kernel_rfl) rfl (ls [.int .i64 C.1.Up, .int .i64 C.1.Down] (.agg #[.int .i64 C.1.Up, .int .i64 C.1.Down]) tf92 Z.f1 fun dc aC => ?_)))
  refine wl_nil (qe_held (listed' := #[true, true, true, true, true, true, true, true, true, true, true, true, true, true, true, true, true, true, true, true, true, true, true, true, true, true, true, true, true, true, true, true, false]) rfl ⟨⟨aC.hasK ((J.le.trans U.le).trans ad.le), aC.hasObj m1⟩, (fun _ => trivial), by decide⟩ (wg_val (i := 32) (listed' := #[true, true, true, true, true, true, true, true, true, true, true, true, true, true, true, true, true, true, true, true, true, true, true, true, true, true, true, true, true, true, true, true, true]) (fun _ => True) rfl (by kernel_rfl) (pk_then (pk_then pk_body)) (by kernel_rfl) rfl (by kernel_rfl) (by kernel_rfl) rfl (.inl fun _ _ => trivial) ⟨⟨aC.hasK ((J.le.trans U.le).trans ad.le), aC.hasObj m1⟩, (fun _ => trivial), by decide⟩ wn rfl (fun _ _ => (rv_assign rfl)) (wg_done (by kernel_rfl) ?_)))
  obtain rfl := oi aO
  exact qd ⟨bj, b5, rfl, aC, ((J.le.trans U.le).trans ad.le), b6, b7⟩
 rintro _ dd ⟨aV, aW, rfl, a4, de, b8, b9⟩
 refine qr (lv (rv_loadmS (ds := [.int .i64 aa.Up, .int .i64 aa.Down]) tf92 rfl m0 a4 rfl rfl) ?_)
 obtain ⟨df, ca, cb⟩ := ob bO
 refine lc (vs := [.agg #[.int .i64 aa.Up, .int .i64 aa.Down], .int .i64 1000]) co47 ((ok_impl_RatFloor F) a4.enter0 b8 b9 (by decide : rng64 1000) ca) ?_
 rintro dg dh ⟨cc, rfl, cd, ce⟩
 refine ⟨_, rfl, ?_⟩
 have cf := (a4.c0 cd).t2
 refine av rfl (nq (wc_ret ?_))
 obtain rfl := oi cb
 have cg := cf.sb (sd (sk sz))
 exact er Tryz.results70 ⟨rfl, trivial⟩ ⟨cc, rfl, cg, ce⟩

set_option maxHeartbeats 2000000 in
theorem ok_impl_scorer_bounds (F : Nat) {w : World} {K : KMap} {g1 : Nat} {f : Option Addr} {i k : Nat} {l : Option Addr} {m o : Nat} {q : Option Addr} {s x : Nat} {y : Option Addr} {A B : Nat} {p0_x : GScorer} {p1_field : Str} {p2_term : Str} {r : (List GBlock)} (hS : SH w K (List.flatMap Item.gs [obj g1 [.slice f i k, .slice l m o, .slice q s x, .slice y A B] 80]) w K [obj g1 [.slice f i k, .slice l m o, .slice q s x, .slice y A B] 80]) (aw : SliceAt tStr K f i k p0_x.c_.Stops) (ax : SliceAt tGSyn K l m o p0_x.c_.Syns) (ay : SliceAt tGDoc K q s x p0_x.s_.Docs) (az : SliceAt tGEntry K y A B p0_x.s_.Entries) (aA : p1_field.length ≤ maxLen) (aB : p2_term.length ≤ maxLen) (hm : M.impl_scorer_bounds F p0_x p1_field p2_term = some r) :
  Calls Tryz.prog 37 #[.pointer (some ⟨g1, 0, none⟩), sv p1_field, sv p2_term] w fun e w' => ∃ (a_1 : Option Addr) (n_2 c_3 : Nat) (K' : KMap), e = .returned (.slice a_1 n_2 c_3) ∧ SH w K (List.flatMap Item.gs [obj g1 [.slice f i k, .slice l m o, .slice q s x, .slice y A B] 80]) w' K' [tail (.slice a_1 n_2 c_3) 45 2, obj g1 [.slice f i k, .slice l m o, .slice q s x, .slice y A B] 80] ∧ SliceAt tGBlock K' a_1 n_2 c_3 r := by
 rw [M.impl_scorer_bounds] at hm
 refine calls_in Tryz.func37 rfl Tryz.ntmps37 rfl (sr (lv (rv_assign (v := .slice none 0 0) rfl) (nr (wl_buildSlice0R tGBlock wn rfl Tryz.underlying33 tf45 hS fun aN bM aO => (av rfl (nsr (mv rfl (lv (rv_nilCheck rfl) (fa ff80_1 rfl ?_)))))))))
 refine mv rfl (mv rfl ?_)
 obtain ⟨aC, aP, aQ⟩ := ob hm
 have aD := aO.f1
 refine lc (vs := [.pointer (some ⟨g1, 2, none⟩), sv p1_field, sv p2_term]) co44 ((ok_impl_Seg_posts__ofGScorer1 F) aD.e1 aw ax ay az aA aB aP) ?_
 rintro bN bO ⟨aE, aF, aG, am, rfl, S, an⟩
 refine ⟨_, rfl, ?_⟩
 have aR := (aD.c1 S).t2
 refine lv (rv_len (t := tGPost) Tryz.underlying37 rfl an) (lv (rv_move (v := .int .i64 0) rfl) (nq ?_))
 obtain ⟨aH, aS, aT⟩ := ob aQ
 refine wc_cutg (fun E' w' => ∃ ab T ac cs46 ad, E' = [(0, pt g1), (7, .slice ab T ac)] ∧ SH w K (List.flatMap Item.gs [obj g1 [.slice f i k, .slice l m o, .slice q s x, .slice y A B] 80]) w' ad [obj g1 [.slice f i k, .slice l m o, .slice q s x, .slice y A B] 80, rowI (.slice ab T ac) cs46 45 2] ∧ KLe am ad ∧ RowAt true tGBlock ad cs46 aH ∧ T = aH.length) ?_ ?_
 ·refine wc_block ?_
  obtain ⟨bP, aU, aV⟩ := ob aS
  refine qF (fun (ao : Nat) (ae : (List GBlock)) E' w' => ∃ H G I cs61 C, E' = [(0, pt g1), (1, sv p1_field), (2, sv p2_term), (7, .slice H G I), (17, .slice aE aF aG), (18, .int .i64 (aC.length : Int)), (19, .int .i64 ((ao : Nat) : Int))] ∧ SH w K (List.flatMap Item.gs [obj g1 [.slice f i k, .slice l m o, .slice q s x, .slice y A B] 80]) w' C [obj g1 [.slice f i k, .slice l m o, .slice q s x, .slice y A B] 80, rowI (.slice H G I) cs61 45 2] ∧ KLe am C ∧ RowAt true tGBlock C cs61 ae ∧ G = ae.length) aU ⟨aN, 0, 0, [], am, rfl, aR, (KLe.refl _), (RowAt.nil tGBlock _), rfl⟩ ?_ ?_
  ·rintro ao ae _ aW bQ hi65 aX ⟨H, G, I, cs61, C, rfl, af, D, hrow62, hm63⟩
   refine sr (lv (rv_lss rfl rfl) (ns (wc_cond_t rfl (decide_eq_true (by omega)) (wc_skip (qe_seq (wc_seq (wc_block (sr (mv rfl ?_)))))))))
   obtain ⟨a, aY, aZ⟩ := ob aX
   refine li Tryz.underlying37 tf42 (an.mono D) aY fun a0 a1 bR a3 a4 => ?_
   obtain ⟨J, O, R, rfl, aI, bS⟩ := a3
   have a5 : AtK _ a0 a1 [.int .i64 a.Doc, .slice J O R] := a4
   refine lv (rv_loadS (cs := [.int .i64 a.Doc, .slice J O R]) tf42 rfl af a5 rfl) (al tf42 af fun ag bT a7 => ?_)
   have a8 : SH _ _ _ _ _ [obj ag [.int .i64 0, .slice none 0 0] 42, _, _] := a7
   refine av rfl (ls [.int .i64 a.Doc, .slice J O R] (.agg #[.int .i64 a.Doc, .slice J O R]) tf42 a8 fun bU aJ => (nsr (mv rfl ?_)))
   obtain ⟨bV, a9, ba⟩ := ob aZ
   refine lv (rv_rem rfl rfl a9) (lv (rv_eql rfl rfl) (nq ?_))
   obtain ⟨U, bb, bc⟩ := ob ba
   refine wc_cutg (fun E' w' => ∃ V W ah cs101 X, E' = [(0, pt g1), (1, sv p1_field), (2, sv p2_term), (7, .slice V W ah), (9, pt ag), (17, .slice aE aF aG), (18, .int .i64 (aC.length : Int)), (19, .int .i64 ((ao : Nat) : Int))] ∧ SH w K (List.flatMap Item.gs [obj g1 [.slice f i k, .slice l m o, .slice q s x, .slice y A B] 80]) w' X [obj g1 [.slice f i k, .slice l m o, .slice q s x, .slice y A B] 80, obj ag [.int .i64 a.Doc, .slice J O R] 42, rowI (.slice V W ah) cs101 45 2] ∧ KLe C X ∧ RowAt true tGBlock X cs101 U ∧ W = U.length) ?_ ?_
   ·refine wcc bb rfl (fun bd ap => ?_) (fun bd ap => ?_)
    ·refine wc_region (mv rfl (lv (rv_build (cs := #[.int .i64 0, .int .i64 0]) sp45 tf45 rfl (by kernel_rfl)) (lb tGBlock (.agg #[.int .i64 0, .int .i64 0]) [.int .i64 0, .int .i64 0] (GBlock.mk (0 : Int) (0 : Int)) Tryz.underlying33 tf45 ⟨rfl, (by decide : rng64 0), (by decide : rng64 0)⟩ aJ fun bW bX be aK bf bg => ?_)))
     obtain ⟨bY, bh, bi⟩ := ob ap
     refine wl_appendR (t := tGBlock) wn rfl Tryz.underlying33 tf45 rfl rfl rfl rfl (RowAt.mono aK hrow62) hm63 bf bh bg.f3 fun bj bk bl cs119 bZ hrow121 hm122 bm => (av rfl (wl_nil ?_))
     obtain rfl := oi bi
     have bn := bm.f2.f3.sb (sk (sk (sk (sd sz))))
     exact qd ⟨bj, bk, bl, cs119, be, rfl, bn, aK, hrow121, hm122⟩
    refine wc_skip ?_
    obtain rfl := oi ap
    exact qd ⟨H, G, I, cs61, C, rfl, aJ.f2.f1.f2, (KLe.refl _), hrow62, hm63⟩
   rintro _ b0 ⟨V, W, ah, cs101, X, rfl, aq, Y, hrow102, hm103⟩
   refine qr (mv rfl (mv rfl (lv (rv_lenRow Tryz.underlying33 rfl hm103) (lv (rv_sub rfl rfl) ?_))))
   obtain ⟨b, Z, bo⟩ := ob bc
   obtain ⟨b1, ai⟩ := SH.rowI_at aq m2 hm103 Z
   obtain ⟨b2, bp, bq⟩ := RowAt.at hrow102 Z
   obtain ⟨rfl, b3, br⟩ := bp
   have bs : ∀ (j : Nat) (d : Value), [.int .i64 b.Last, .int .i64 b.Most][j]? = some d → cs101[(w64 ((U.length : Int) - (1 : Int))).toNat * tGBlock.size + j]? = some d := bq
   refine lv (rv_indexI (t := tGBlock) Tryz.underlying33 tf45 rfl rfl ai hm103 Z) (av rfl (nr (mv rfl (fa ff42_0 rfl (lv (rv_loadm1 tf3 rfl m1 aq rfl) (lv (rv_nilCheck rfl) (fa ff45_0 rfl (wl_storeI (t := tGBlock) (off := 0) (ds := [.int .i64 b.Last, .int .i64 b.Most]) (v := .int .i64 a.Doc) (u := .agg #[.int .i64 a.Doc, .int .i64 b.Most]) (e := (GBlock.mk a.Doc b.Most)) wn tf3 rfl rfl rfl rfl (by simp [Value.cells, Value.oneCell']) ai aq.f2 hrow102 hm103 Z bs rfl rfl ⟨rfl, aI, br⟩ fun cs142 b4 hrow144 hm145 bt => ?_))))))))
   have ar := getI_set (e := (GBlock.mk a.Doc b.Most)) Z
   obtain ⟨b5, bu, bv⟩ := RowAt.at hrow144 ar
   obtain ⟨rfl, bw, bx⟩ := bu
   have aL : ∀ (j : Nat) (d : Value), [.int .i64 ((GBlock.mk a.Doc b.Most).Last), .int .i64 ((GBlock.mk a.Doc b.Most).Most)][j]? = some d → cs142[(w64 ((U.length : Int) - (1 : Int))).toNat * tGBlock.size + j]? = some d := bv
   refine nq ?_
   have aj := bt.drew
   refine wh1 (fun w' => Holds X w' ∧ HasObj ag [.int .i64 a.Doc, .slice J O R] w') (fun w' => HasRow V cs142 w') 14 [(4, 11), (4, 12), (4, 13), (4, 14), (11, 12), (11, 13), (11, 14), (12, 13), (13, 14)] mixed ⟨aj.hasK (KLe.refl _), aj.hasObj m2⟩ (fun _ => aj.hasRow (.head _)) (gt (rv_move rfl) (gt (rv_move rfl) (gt (rv_nilCheck rfl) (gt (rv_fieldAddr ff45_1 rfl) (gf (fun _ h => (rh_loadI1 tf3 rfl rfl (aL 1 _ rfl) ai h)) (gt (rv_move rfl) (gt (rv_move rfl) (gt (rv_move rfl) (gt (rv_fieldAddr ff42_0 rfl) ?_)))))))))
   refine gh (fun _ h => rh_loadm1 tf3 rfl rfl h.2) (gn ?_)
   obtain ⟨c, bz, bA⟩ := ob bo
   have aM := aj.f1
   refine lc (vs := [pt g1, sv p1_field, sv p2_term, .int .i64 a.Doc]) co70 ((ok_impl_scorer_points F) aM.e1 (aw.mono ((S.le.trans D).trans Y)) (ax.mono ((S.le.trans D).trans Y)) (ay.mono ((S.le.trans D).trans Y)) (az.mono ((S.le.trans D).trans Y)) aA aB aI bz) ?_
   rintro b6 b7 ⟨bB, rfl, aa, bC⟩
   refine ⟨_, rfl, ?_⟩
   have ak := (aM.c1 aa).t3
   refine wl_nil (qh ⟨ak.hasK aa.le, ak.hasObj m2⟩ (fun _ => ak.hasRow (.tail _ (.head _))) (gt (rv_max2 rfl rfl) (gt (rv_nilCheck rfl) (gt (rv_fieldAddr ff45_1 rfl) (gn (wl_storeI (t := tGBlock) (off := 1) (ds := [.int .i64 ((GBlock.mk a.Doc b.Most).Last), .int .i64 ((GBlock.mk a.Doc b.Most).Most)]) (v := .int .i64 (if c > (GBlock.mk a.Doc b.Most).Most then c else (GBlock.mk a.Doc b.Most).Most)) (u := .agg #[.int .i64 ((GBlock.mk a.Doc b.Most).Last), .int .i64 (if c > (GBlock.mk a.Doc b.Most).Most then c else (GBlock.mk a.Doc b.Most).Most)]) (e := (GBlock.mk (GBlock.mk a.Doc b.Most).Last (if c > (GBlock.mk a.Doc b.Most).Most then c else (GBlock.mk a.Doc b.Most).Most))) wn tf3 rfl rfl rfl rfl (by simp [Value.cells, Value.oneCell']) ai ak.f1 (RowAt.mono aa.le hrow144) hm145 ar aL rfl rfl ⟨rfl, bw, (rng_max bx bC)⟩ fun cs167 b8 hrow169 hm170 au => ?_))))))
   have bD := getI_set (e := (GBlock.mk (GBlock.mk a.Doc b.Most).Last (if c > (GBlock.mk a.Doc b.Most).Most then c else (GBlock.mk a.Doc b.Most).Most))) ar
   obtain ⟨b9, bE, bF⟩ := RowAt.at hrow169 bD
   obtain ⟨rfl, ca, cb⟩ := bE
   have cc : ∀ (j : Nat) (d : Value), [.int .i64 ((GBlock.mk (GBlock.mk a.Doc b.Most).Last (if c > (GBlock.mk a.Doc b.Most).Most then c else (GBlock.mk a.Doc b.Most).Most)).Last), .int .i64 ((GBlock.mk (GBlock.mk a.Doc b.Most).Last (if c > (GBlock.mk a.Doc b.Most).Most then c else (GBlock.mk a.Doc b.Most).Most)).Most)][j]? = some d → cs167[(w64 ((U.length : Int) - (1 : Int))).toNat * tGBlock.size + j]? = some d := bF
   refine wl_nil (qh ⟨au.hasK aa.le, au.hasObj m2⟩ (fun h => nomatch h) (gd' (qe_block (qg (lv (rv_add_to rfl rfl (w64_succ hi65 (SliceAt.max an))) (mv rfl (wl_nil ?_)))))))
   obtain rfl := oi bA
   have bG := au.f1.sb (sk (sk (sd sz)))
   exact qd ⟨V, W, ah, cs167, bB, rfl, bG, ((D.trans Y).trans aa.le), hrow169, hm170⟩
  rintro ae _ aW bH ⟨H, G, I, cs61, C, rfl, af, D, hrow62, hm63⟩
  subst bH
  refine sr (lv (rv_lss rfl rfl) (ns (wc_cond_f rfl (decide_eq_false (by omega)) (wc_exit (qe_then_exit (qe_then_exit (qe_block_eq ?_)))))))
  obtain rfl := oi aV
  exact qd ⟨H, G, I, cs61, C, rfl, af, D, hrow62, hm63⟩
 rintro _ cd ⟨ab, T, ac, cs46, ad, rfl, bI, ce, hrow47, hm48⟩
 refine qr (mv rfl (av rfl (nq (wc_ret ?_))))
 obtain ⟨bJ, cf, bK, bL⟩ := SH.freezeI bI.f1 hrow47 hm48
 obtain rfl := oi aT
 exact er Tryz.results37 ⟨rfl, trivial⟩ ⟨ab, T, ac, bJ, rfl, bL, bK⟩
end Go.Proofs.YtoeajphlomankaaGreatDoor
