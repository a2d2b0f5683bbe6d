/-
 Walks of the functions. Printed by gen.py.
-/
import Derived.Test.YtpjefkdclnmlfaaFacts
set_option linter.unusedVariables false
set_option linter.unusedSectionVars false
set_option maxRecDepth 100000
namespace Go.Proofs.Ytpjefkdclnmlfaa
set_option maxHeartbeats 4000000
open Go Go.Fk Go.RowKit Try
variable (F:Nat){w:World}{K:KMap}{Z:List Nat}{g1 g2 g3:Nat}{A B C D G H I J O R S T:Option Addr}{a b c d f i k l m n o p q s v x y aa ab ac ad ae af ag:Nat}
variable [dr:Dr]

theorem ok_laws_szField {q0:GField}{q1:Int}{r:Int}(hS:SH w K [] w K [])(q:q0.Name.length≤maxLen)(s:q0.Text.length≤maxLen)(x:rng64 q1)(hm:M.laws_szField F q0 q1=some r):
  Calls prog 61 #[.agg #[sv q0.Name,sv q0.Text],V6 q1] w (R_i w K r):=by
 rw [M.laws_szField] at hm
 refine ci func61 u ntmps61 (sr (bx u hS fun i y k=>?_))
 have a:SH _ _ _ _ _ [obj i [sv q0.Name,sv q0.Text] 88]:=k
 refine lv (r_0 u) (nr (mv u (fl ff88_0 u tf9 m0 a u (lv (rv_slen underlying9 u) (lv (rv_sub u u) (av u (nsr (mv u (lv (rv_lss u u) ?_)))))))))
 refine nq (wc_cond u (fun b=>?_) (fun b=>?_))
 ·have c:=cond_t b hm
  refine sr (lv (rv_assign (v:=V6 (-1)) u) (nq (rr ?_)))
  cases oi c
  exact ey results61 ⟨K,u,a.s,(by decide :rng64 (-1))⟩
 have c:=cond_f b hm
 refine wc_skip (qr (mv u (fl ff88_1 u tf9 m0 a u (lv (rv_slen underlying9 u) (lv (rv_sub u u) ?_)))))
 obtain⟨A,l,m⟩:=ob c
 have f:=oi l
 refine lv (rv_as u (congrArg (Value.int .i64) f)) (nsr (mv u (lv (rv_lss u u) (nq (wcc m u (fun o d=>?_) (fun o d=>?_))))))
 ·refine sr (lv (rv_assign (v:=V6 (-1)) u) (nq (rr ?_)))
  cases oi d
  exact ey results61 ⟨K,u,a.s,(by decide :rng64 (-1))⟩
 refine wc_skip (qr (mv u (av u (nq (wc_ret ?_)))))
 cases oi d
 exact ey results61 ⟨K,u,a.s,(cast_rng f (w64_rng _))⟩

theorem ok_laws_szFieldS {q0:List GField}{q1:Int}{r:Int}(hS:SH w K [] w K [])(m:SliceAt tGField K A a b q0)(al:rng64 q1)(hm:M.laws_szFieldS F q0 q1=some r):
  Calls prog 47 #[V3 A a b,V6 q1] w (R_i w K r):=by
 rw [M.laws_szFieldS] at hm
 refine ci func47 u ntmps47 (sr (lv (r_0 u) (nr (mv u (mv u (lv (rv_len underlying52 u m) (lv (rv_sub u u) (av u (nsr ?_)))))))))
 refine mv u (lv (rv_lss u u) (nq (wc_cond u (fun o=>?_) (fun o=>?_))))
 ·have q:=cond_t o hm
  refine sr (lv (rv_assign (v:=V6 (-1)) u) (nq (rr ?_)))
  cases oi q
  exact ey results47 ⟨K,u,hS,(by decide :rng64 (-1))⟩
 have q:=cond_f o hm
 refine wc_skip (qs (sr (lv (r_0 u) (nq ?_))))
 obtain⟨J,O,d⟩:=ob q
 refine wc_cutg (fun E' w'=>∃f i,J= .inl f∧E'=[(1,V6 f)]∧SH w K [] w' i []∧KLe K i∧rng64 f) ?_ ?_
 ·refine wc_block ?_
  obtain⟨am,R,y⟩:=ob O
  refine qw (fun (c:Int×Int)=>IW w K [] K [(0,V3 A a b),(1,V6 c.1),(5,V6 c.2)] [] (rng64 c.1∧rng64 c.2)) R ⟨K,u,hS,kr,(w64_rng _),d_0⟩ ?_
  rintro c _ an ao S B ⟨T,rfl,k,l,C,ap⟩
  refine wc_seq (sr (mv u (mv u (lv (rv_len underlying52 u (m.mono l)) (lv (rv_lss u u) (nq (wcc S u (fun U s=>?_) (fun U s=>?_))))))))
  ·refine wc_skip (qs (wc_block (sr (mv u (mv u ?_)))))
   obtain⟨D,V,W⟩:=ob s
   refine li underlying52 tf88 (m.mono l) V fun X Y aq aa ab=>?_
   obtain⟨rfl,ac,ad⟩:=aa
   have ae:AtK _ X Y [sv D.Name,sv D.Text]:=ab
   refine lv (rv_loadS tf88 u k ae u) (mv u ?_)
   obtain⟨ar,af,ag⟩:=ob W
   refine lk co61 (ok_laws_szField F k.enter0 ac ad C af) ?_
   rintro au aw ⟨G,rfl,H,ah⟩
   have I:=(k.c0 H).t0
   refine av u (nr (mv u (lv (rv_lss u u) (nq (wcc ag u (fun ai x=>?_) (fun ai x=>?_))))))
   ·refine sr (lv (rv_assign (v:=V6 (-1)) u) (nq (wc_ret (qe_block_ret (qe_then_ret (qe_then_ret ?_))))))
    cases oi x
    cases B _ u
    refine qe_block_ret (qe_then_ret ?_)
    cases oi y
    refine qe_then_ret ?_
    cases oi d
    exact ey results47 ⟨G,u,I,(by decide :rng64 (-1))⟩
   refine wc_skip (qe_block (qe_seq (wc_region (mv u (lv (rv_add u u) (av u (wl_nil ?_)))))))
   cases oi x
   exact qd ⟨_,u,G,u,I,(l.trans H.le),ah,(w64_rng _)⟩
  refine wc_exit (qe_then_exit (qe_then_exit ?_))
  cases oi s
  cases B _ u
  refine qe_block_eq ?_
  cases oi y
  exact qd ⟨_,T,u,u,k,l,C⟩
 rintro _ ax ⟨f,i,rfl,rfl,aj,ay,ak⟩
 have d:=elim_l d
 refine qr (mv u (av u (nq (wc_ret ?_))))
 cases oi d
 exact ey results47 ⟨i,u,aj,ak⟩

theorem ok_laws_szAttr {q0:GAttr}{q1:Int}{r:Int}(hS:SH w K [] w K [])(i:q0.Name.length≤maxLen)(k:rng64 q0.Num)(l:rng64 q1)(hm:M.laws_szAttr F q0 q1=some r):
  Calls prog 62 #[.agg #[sv q0.Name,V6 q0.Num],V6 q1] w (R_i w K r):=by
 rw [M.laws_szAttr] at hm
 refine ci func62 u ntmps62 (sr (bx u hS fun d m f=>?_))
 have a:SH _ _ _ _ _ [obj d [sv q0.Name,V6 q0.Num] 90]:=f
 refine lv (r_0 u) (nr (mv u (fl ff90_0 u tf9 m0 a u (lv (rv_slen underlying9 u) (lv (rv_sub u u) (av u (nsr (mv u (lv (rv_lss u u) ?_)))))))))
 refine nq (wc_cond u (fun b=>?_) (fun b=>?_))
 ·have c:=cond_t b hm
  refine sr (lv (rv_assign (v:=V6 (-1)) u) (nq (rr ?_)))
  cases oi c
  exact ey results62 ⟨K,u,a.s,(by decide :rng64 (-1))⟩
 have c:=cond_f b hm
 refine wc_skip (qr (mv u (av u (nq (wc_ret ?_)))))
 cases oi c
 exact ey results62 ⟨K,u,a.s,(w64_rng _)⟩

theorem ok_laws_szAttrS {q0:List GAttr}{q1:Int}{r:Int}(hS:SH w K [] w K [])(m:SliceAt tGAttr K A a b q0)(al:rng64 q1)(hm:M.laws_szAttrS F q0 q1=some r):
  Calls prog 48 #[V3 A a b,V6 q1] w (R_i w K r):=by
 rw [M.laws_szAttrS] at hm
 refine ci func48 u ntmps48 (sr (lv (r_0 u) (nr (mv u (mv u (lv (rv_len underlying53 u m) (lv (rv_sub u u) (av u (nsr ?_)))))))))
 refine mv u (lv (rv_lss u u) (nq (wc_cond u (fun o=>?_) (fun o=>?_))))
 ·have q:=cond_t o hm
  refine sr (lv (rv_assign (v:=V6 (-1)) u) (nq (rr ?_)))
  cases oi q
  exact ey results48 ⟨K,u,hS,(by decide :rng64 (-1))⟩
 have q:=cond_f o hm
 refine wc_skip (qs (sr (lv (r_0 u) (nq ?_))))
 obtain⟨J,O,d⟩:=ob q
 refine wc_cutg (fun E' w'=>∃f i,J= .inl f∧E'=[(1,V6 f)]∧SH w K [] w' i []∧KLe K i∧rng64 f) ?_ ?_
 ·refine wc_block ?_
  obtain⟨am,R,y⟩:=ob O
  refine qw (fun (c:Int×Int)=>IW w K [] K [(0,V3 A a b),(1,V6 c.1),(5,V6 c.2)] [] (rng64 c.1∧rng64 c.2)) R ⟨K,u,hS,kr,(w64_rng _),d_0⟩ ?_
  rintro c _ an ao S B ⟨T,rfl,k,l,C,ap⟩
  refine wc_seq (sr (mv u (mv u (lv (rv_len underlying53 u (m.mono l)) (lv (rv_lss u u) (nq (wcc S u (fun U s=>?_) (fun U s=>?_))))))))
  ·refine wc_skip (qs (wc_block (sr (mv u (mv u ?_)))))
   obtain⟨D,V,W⟩:=ob s
   refine li underlying53 tf90 (m.mono l) V fun X Y aq aa ab=>?_
   obtain⟨rfl,ac,ad⟩:=aa
   have ae:AtK _ X Y [sv D.Name,V6 D.Num]:=ab
   refine lv (rv_loadS tf90 u k ae u) (mv u ?_)
   obtain⟨ar,af,ag⟩:=ob W
   refine lk co62 (ok_laws_szAttr F k.enter0 ac ad C af) ?_
   rintro au aw ⟨G,rfl,H,ah⟩
   have I:=(k.c0 H).t0
   refine av u (nr (mv u (lv (rv_lss u u) (nq (wcc ag u (fun ai x=>?_) (fun ai x=>?_))))))
   ·refine sr (lv (rv_assign (v:=V6 (-1)) u) (nq (wc_ret (qe_block_ret (qe_then_ret (qe_then_ret ?_))))))
    cases oi x
    cases B _ u
    refine qe_block_ret (qe_then_ret ?_)
    cases oi y
    refine qe_then_ret ?_
    cases oi d
    exact ey results48 ⟨G,u,I,(by decide :rng64 (-1))⟩
   refine wc_skip (qe_block (qe_seq (wc_region (mv u (lv (rv_add u u) (av u (wl_nil ?_)))))))
   cases oi x
   exact qd ⟨_,u,G,u,I,(l.trans H.le),ah,(w64_rng _)⟩
  refine wc_exit (qe_then_exit (qe_then_exit ?_))
  cases oi s
  cases B _ u
  refine qe_block_eq ?_
  cases oi y
  exact qd ⟨_,T,u,u,k,l,C⟩
 rintro _ ax ⟨f,i,rfl,rfl,aj,ay,ak⟩
 have d:=elim_l d
 refine qr (mv u (av u (nq (wc_ret ?_))))
 cases oi d
 exact ey results48 ⟨i,u,aj,ak⟩

theorem ok_laws_szDoc {q0:GDoc}{q1:Int}{r:Int}(hS:SH w K [] w K [])(W:rng64 q0.Id)(s:SliceAt tGField K A a b q0.Fields)(x:SliceAt tGAttr K B c d q0.Nums)(y:rng64 q1)(hm:M.laws_szDoc F q0 q1=some r):
  Calls prog 29 #[.agg #[V6 q0.Id,V3 A a b,V3 B c d],V6 q1] w (R_i w K r):=by
 rw [M.laws_szDoc] at hm
 refine ci func29 u ntmps29 (sr (bx u hS fun C X D=>?_))
 have i:SH _ _ _ _ _ [obj C [V6 q0.Id,V3 A a b,V3 B c d] 55]:=D
 refine lv (r_0 u) (nr (fl ff55_1 u tf52 m0 i u (mv u ?_)))
 obtain⟨Y,G,H⟩:=ob hm
 refine lk co47 (ok_laws_szFieldS F i.enter0 s y G) ?_
 rintro aa ab ⟨I,rfl,m,J⟩
 have f:=(i.c0 m).t1
 refine av u (nsr (mv u (lv (rv_lss u u) (nq (wcc H u (fun O k=>?_) (fun O k=>?_))))))
 ·refine sr (lv (rv_assign (v:=V6 (-1)) u) (nq (rr ?_)))
  cases oi k
  exact ey results29 ⟨I,u,f.s,(by decide :rng64 (-1))⟩
 refine wc_skip (qr (fl ff55_2 u tf53 m0 f u (mv u ?_)))
 obtain⟨ac,R,S⟩:=ob k
 refine lk co48 (ok_laws_szAttrS F f.enter0 (x.mono m.le) J R) ?_
 rintro ad ae ⟨o,rfl,T,U⟩
 have q:=(f.c0 T).t1
 refine av u (nsr (mv u (lv (rv_lss u u) (nq (wcc S u (fun V l=>?_) (fun V l=>?_))))))
 ·refine sr (lv (rv_assign (v:=V6 (-1)) u) (nq (rr ?_)))
  cases oi l
  exact ey results29 ⟨o,u,q.s,(by decide :rng64 (-1))⟩
 refine wc_skip (qr (mv u (av u (nq (wc_ret ?_)))))
 cases oi l
 exact ey results29 ⟨o,u,q.s,U⟩

theorem ok_laws_szDocS {q0:List GDoc}{q1:Int}{r:Int}(hS:SH w K [] w K [])(m:SliceAt tGDoc K A a b q0)(au:rng64 q1)(hm:M.laws_szDocS F q0 q1=some r):
  Calls prog 14 #[V3 A a b,V6 q1] w (R_i w K r):=by
 rw [M.laws_szDocS] at hm
 refine ci func14 u ntmps14 (sr (lv (r_0 u) (nr (mv u (mv u (lv (rv_len underlying31 u m) (lv (rv_sub u u) (av u (nsr ?_)))))))))
 refine mv u (lv (rv_lss u u) (nq (wc_cond u (fun o=>?_) (fun o=>?_))))
 ·have q:=cond_t o hm
  refine sr (lv (rv_assign (v:=V6 (-1)) u) (nq (rr ?_)))
  cases oi q
  exact ey results14 ⟨K,u,hS,(by decide :rng64 (-1))⟩
 have q:=cond_f o hm
 refine wc_skip (qs (sr (lv (r_0 u) (nq ?_))))
 obtain⟨I,J,d⟩:=ob q
 refine wc_cutg (fun E' w'=>∃f i,I= .inl f∧E'=[(1,V6 f)]∧SH w K [] w' i []∧KLe K i∧rng64 f) ?_ ?_
 ·refine wc_block ?_
  obtain⟨aw,O,y⟩:=ob J
  refine qw (fun (c:Int×Int)=>IW w K [] K [(0,V3 A a b),(1,V6 c.1),(5,V6 c.2)] [] (rng64 c.1∧rng64 c.2)) O ⟨K,u,hS,kr,(w64_rng _),d_0⟩ ?_
  rintro c _ ax ay R B ⟨S,rfl,k,l,C,az⟩
  refine wc_seq (sr (mv u (mv u (lv (rv_len underlying31 u (m.mono l)) (lv (rv_lss u u) (nq (wcc R u (fun T s=>?_) (fun T s=>?_))))))))
  ·refine wc_skip (qs (wc_block (sr (mv u (mv u ?_)))))
   obtain⟨U,V,W⟩:=ob s
   refine li underlying31 tf55 (m.mono l) V fun X Y aA aa ab=>?_
   obtain⟨ac,ad,ae,af,ag,ah,rfl,ai,aj,ak⟩:=aa
   have al:AtK _ X Y [V6 U.Id,V3 ac ad ae,V3 af ag ah]:=ab
   refine lv (rv_loadS tf55 u k al u) (mv u ?_)
   obtain⟨aB,am,an⟩:=ob W
   refine lk co29 (ok_laws_szDoc F k.enter0 ai aj ak C am) ?_
   rintro aC aD ⟨D,rfl,G,ao⟩
   have H:=(k.c0 G).t0
   refine av u (nr (mv u (lv (rv_lss u u) (nq (wcc an u (fun ap x=>?_) (fun ap x=>?_))))))
   ·refine sr (lv (rv_assign (v:=V6 (-1)) u) (nq (wc_ret (qe_block_ret (qe_then_ret (qe_then_ret ?_))))))
    cases oi x
    cases B _ u
    refine qe_block_ret (qe_then_ret ?_)
    cases oi y
    refine qe_then_ret ?_
    cases oi d
    exact ey results14 ⟨D,u,H,(by decide :rng64 (-1))⟩
   refine wc_skip (qe_block (qe_seq (wc_region (mv u (lv (rv_add u u) (av u (wl_nil ?_)))))))
   cases oi x
   exact qd ⟨_,u,D,u,H,(l.trans G.le),ao,(w64_rng _)⟩
  refine wc_exit (qe_then_exit (qe_then_exit ?_))
  cases oi s
  cases B _ u
  refine qe_block_eq ?_
  cases oi y
  exact qd ⟨_,S,u,u,k,l,C⟩
 rintro _ aE ⟨f,i,rfl,rfl,aq,aF,ar⟩
 have d:=elim_l d
 refine qr (mv u (av u (nq (wc_ret ?_))))
 cases oi d
 exact ey results14 ⟨i,u,aq,ar⟩

theorem ok_spec_l1In {q0:Int}{q1:Int}{q2:Int}{r:Bool}(hS:SH w K [] w K [])(c:rng64 q0)(d:rng64 q1)(f:rng64 q2)(hm:M.spec_l1In F q0 q1 q2=some r):
  Calls prog 31 #[V6 q0,V6 q1,V6 q2] w (R_b w K r):=by
 rw [M.spec_l1In] at hm
 refine ci func31 u ntmps31 (sr (lv (r_f u) (nr (mv u (mv u (lv (rv_geq u u) (mv u (bt hm (fun a b=>?_) (fun a b=>?_)))))))))
 ·refine lg a (rv_move u) (lg a (rv_move u) (lg a (rv_leq u u) (lv (rv_pick_t u a u) (av u (nq (wc_ret ?_))))))
  cases oi b
  exact ey results31 ⟨K,u,hS⟩
 refine lu a (lu a (lu a (lv (p_f u a u) (av u (nq (wc_ret ?_))))))
 cases oi b
 exact ey results31 ⟨K,u,hS⟩

theorem ok_spec_l1Fold {q0:UInt8}{r:UInt8}(hS:SH w K [] w K [])(hm:M.spec_l1Fold F q0=some r):
  Calls prog 56 #[iv8 q0] w fun e w'=>∃K',e= .returned (iv8 r)∧SH w K [] w' K' []:=by
 rw [M.spec_l1Fold] at hm
 refine ci func56 u ntmps56 (sr (lv (rv_assign (v:=iv8 0) u) (ns (wc_block (wc_seq ?_)))))
 obtain⟨D,G,H⟩:=ob hm
 refine wc_cutg (IV w K [] K [(0,iv8 q0),(3,.bool D)] []) ?_ ?_
 ·refine wc_region (mv u (lv (rv_bge (b:=(65:UInt8)) u u) (mv u (bt G (fun c m=>?_) (fun c m=>?_)))))
  ·refine lg c (rv_move u) (lg c (rv_ble (b:=(90:UInt8)) u u) (lv (rv_pick_t u c u) (av u (wl_nil ?_))))
   cases oi m
   exact qd ⟨K,u,hS,kr⟩
  refine lu c (lu c (lv (p_f u c u) (av u (wl_nil ?_))))
  cases oi m
  exact qd ⟨K,u,hS,kr⟩
 rintro _ T ⟨d,rfl,l,U⟩
 refine qe_seq (wcc H u (fun I o=>?_) (fun I o=>?_))
 ·refine sr (mv u (lv (rv_badd (b:=(32:UInt8)) u u) (av u (nq (wc_ret (qe_block_ret (qe_then_ret ?_)))))))
  cases oi o
  exact ey results56 ⟨d,u,l⟩
 refine wc_seq ?_
 obtain⟨J,O,R⟩:=ob o
 refine wc_cutg (IV w K [] d [(0,iv8 q0),(12,.bool J)] []) ?_ ?_
 ·refine wc_region (mv u (lv (rv_bge (b:=(97:UInt8)) u u) (mv u (bt O (fun f q=>?_) (fun f q=>?_)))))
  ·refine lg f (rv_move u) (lg f (rv_ble (b:=(122:UInt8)) u u) (lv (rv_pick_t u f u) (mv u (bt q (fun a s=>?_) (fun a s=>?_)))))
   ·refine lu a (lu a (lu a (wl_un (uu u u) u (wl_un (uu u u) u (lu a (lv (p_t u a u) (av u (wl_nil ?_))))))))
    cases oi s
    exact qd ⟨d,u,l,kr⟩
   refine lg a (rv_move u) (lg a (rv_bge (b:=(48:UInt8)) u u) (lg a (rv_move u) (bt s (fun i x=>?_) (fun i x=>?_))))
   ·refine lg i (rv_move u) (lg i (rv_ble (b:=(57:UInt8)) u u) (lg a (rv_pick_t u i u) (lv (rv_pick_f u a u) (av u (wl_nil ?_)))))
    cases oi x
    exact qd ⟨d,u,l,kr⟩
   refine lu i (lu i (lg a (p_f u i u) (lv (rv_pick_f u a u) (av u (wl_nil ?_)))))
   cases oi x
   exact qd ⟨d,u,l,kr⟩
  refine lu f (lu f (lv (p_f u f u) (mv u (lg u (rv_move u) (lg u (rv_bge (b:=(48:UInt8)) u u) (lg u (rv_move u) (bt q (fun k y=>?_) (fun k y=>?_))))))))
  ·refine lg k (rv_move u) (lg k (rv_ble (b:=(57:UInt8)) u u) (lg u (rv_pick_t u k u) (lv (rv_pick_f u u u) (av u (wl_nil ?_)))))
   cases oi y
   exact qd ⟨d,u,l,kr⟩
  refine lu k (lu k (lg u (p_f u k u) (lv (rv_pick_f u u u) (av u (wl_nil ?_)))))
  cases oi y
  exact qd ⟨d,u,l,kr⟩
 rintro _ V ⟨B,rfl,C,W⟩
 refine qe_seq (wcc R u (fun S A=>?_) (fun S A=>?_))
 ·refine sr (mv u (av u (nq (wc_ret (qe_block_ret (qe_then_ret ?_))))))
  cases oi A
  exact ey results56 ⟨B,u,C⟩
 refine wc_skip (qe_block (qr (lv (rv_assign (v:=iv8 0) u) (nq (wc_ret ?_)))))
 cases oi A
 exact ey results56 ⟨B,u,C⟩

theorem ok_spec_l1WordOk {q0:Str}{r:Bool}(hS:SH w K [] w K [])(B:q0.length≤maxLen)(hm:M.spec_l1WordOk F q0=some r):
  Calls prog 42 #[sv q0] w (R_b w K r):=by
 rw [M.spec_l1WordOk] at hm
 refine ci func42 u ntmps42 (sr (lv (r_f u) (nsr (lv (r_0 u) (nq ?_)))))
 obtain⟨C,D,c⟩:=ob hm
 refine wc_cutg (IE C w K [] K [(0,sv q0)] []) ?_ ?_
 ·refine wc_block ?_
  obtain⟨ap,G,l⟩:=ob D
  refine qw (fun (d:Int)=>IW w K [] K [(0,sv q0),(3,V6 d)] [] (rng64 d)) G ⟨K,u,hS,kr,d_0⟩ ?_
  rintro d _ aq ar H m ⟨o,rfl,q,s,au⟩
  refine wc_seq (sr (mv u (mv u (lv (rv_slen underlying9 u) (lv (rv_lss u u) (nq (wcc H u (fun I f=>?_) (fun I f=>?_))))))))
  ·refine wc_skip (qs (wc_block (wc_seq ?_)))
   obtain⟨J,O,R⟩:=ob f
   refine wc_cutg (IV w K [] o [(0,sv q0),(3,V6 d),(23,.bool J)] []) ?_ ?_
   ·refine wc_quiet mixed (by kernel_rfl) q (km u (km u ?_))
    obtain⟨aw,S,T⟩:=ob O
    refine kv (rv_sidx underlying9 u u S) ?_
    obtain⟨ax,U,V⟩:=ob T
    refine kc co56 (fun _ _ W ay=>(ok_spec_l1Fold F) W.enter0 U) (km u (km u ?_))
    obtain⟨az,X,Y⟩:=ob V
    refine kv (rv_sidx underlying9 u u X) (kv (rv_bne u u) (km u (bt Y (fun a i=>?_) (fun a i=>?_))))
    ·refine kn a (kn a (kn a (kn a (kv (p_t u a u) (wq_nil ?_)))))
     rintro aA ⟨aa,ab,ac⟩
     cases oi i
     exact qd ⟨aa,u,ab,ac⟩
    refine kg a (rv_move u) (kg a (rv_move u) ?_)
    obtain⟨aB,ad,ae⟩:=ob i
    refine kg a (rv_sidx underlying9 u u ad) (kg a (rv_beq (b:=(0:UInt8)) u u) (kv (rv_pick_f u a u) (wq_nil ?_)))
    rintro aC ⟨af,ag,ah⟩
    cases oi ae
    exact qd ⟨af,u,ag,ah⟩
   rintro _ aD ⟨x,rfl,y,ai⟩
   refine qe_seq (wcc R u (fun aj k=>?_) (fun aj k=>?_))
   ·refine sr (lv (r_f u) (nq (wc_ret (qe_block_ret (qe_then_ret (qe_then_ret ?_))))))
    cases oi k
    cases m _ u
    refine qe_block_ret (qe_then_ret ?_)
    cases oi l
    refine qe_then_ret ?_
    cases oi c
    exact ey results42 ⟨x,u,y⟩
   refine wc_skip (qe_block (qe_seq (wc_region (mv u (lv (rv_add u u) (av u (wl_nil ?_)))))))
   cases oi k
   exact qd ⟨_,u,x,u,y,(s.trans ai),(w64_rng _)⟩
  refine wc_exit (qe_then_exit (qe_then_exit ?_))
  cases oi f
  cases m _ u
  refine qe_block_eq ?_
  cases oi l
  exact qd ⟨_,o,u,u,q,s⟩
 rintro _ w9 ⟨s5,K6,rfl,rfl,A,aH⟩
 have c:=elim_l c
 refine qr (mv u (lv (rv_slen underlying9 u) ?_))
 obtain⟨aI,ak,al⟩:=ob c
 refine lk co31 (ok_spec_l1In F A.enter0 (rng_nat B) (by decide :rng64 1) (by decide :rng64 12) ak) ?_
 rintro aJ aK ⟨am,rfl,an⟩
 have ao:=(A.c0 an).t0
 refine av u (nq (wc_ret ?_))
 cases oi al
 exact ey results42 ⟨am,u,ao⟩

theorem ok_spec_l1Text {q0:Str}{r:Bool}(hS:SH w K [] w K [])(Y:q0.length≤maxLen)(hm:M.spec_l1Text F q0=some r):
  Calls prog 63 #[sv q0] w (R_b w K r):=by
 rw [M.spec_l1Text] at hm
 refine ci func63 u ntmps63 (sr (lv (r_f u) (nsr (lv (r_0 u) (nq ?_)))))
 obtain⟨A,B,c⟩:=ob hm
 refine wc_cutg (IE A w K [] K [(0,sv q0)] []) ?_ ?_
 ·refine wc_block ?_
  obtain⟨aa,C,o⟩:=ob B
  refine qw (fun (d:Int)=>IW w K [] K [(0,sv q0),(3,V6 d)] [] (rng64 d)) C ⟨K,u,hS,kr,d_0⟩ ?_
  rintro d _ ab ac D q ⟨f,rfl,i,s,ad⟩
  refine wc_seq (sr (mv u (mv u (lv (rv_slen underlying9 u) (lv (rv_lss u u) (nq (wcc D u (fun G k=>?_) (fun G k=>?_))))))))
  ·refine wc_skip (qs (wc_block (wc_seq ?_)))
   obtain⟨H,I,J⟩:=ob k
   refine wc_cutg (IV w K [] f [(0,sv q0),(3,V6 d),(19,.bool H)] []) ?_ ?_
   ·refine wc_region (mv u (mv u ?_))
    obtain⟨ae,O,R⟩:=ob I
    refine lv (rv_sidx underlying9 u u O) (lv (rv_bl (b:=(32:UInt8)) u u) (mv u (bt R (fun a l=>?_) (fun a l=>?_))))
    ·refine lu a (lu a (lu a (lu a (lv (p_t u a u) (wl_nil ?_)))))
     cases oi l
     exact qd ⟨f,u,i,kr⟩
    refine lg a (rv_move u) (lg a (rv_move u) ?_)
    obtain⟨af,S,T⟩:=ob l
    refine lg a (rv_sidx underlying9 u u S) (lg a (rv_bg (b:=(126:UInt8)) u u) (lv (rv_pick_f u a u) (wl_nil ?_)))
    cases oi T
    exact qd ⟨f,u,i,kr⟩
   rintro _ ag ⟨x,rfl,y,U⟩
   refine qe_seq (wcc J u (fun V m=>?_) (fun V m=>?_))
   ·refine sr (lv (r_f u) (nq (wc_ret (qe_block_ret (qe_then_ret (qe_then_ret ?_))))))
    cases oi m
    cases q _ u
    refine qe_block_ret (qe_then_ret ?_)
    cases oi o
    refine qe_then_ret ?_
    cases oi c
    exact ey results63 ⟨x,u,y⟩
   refine wc_skip (qe_block (qe_seq (wc_region (mv u (lv (rv_add u u) (av u (wl_nil ?_)))))))
   cases oi m
   exact qd ⟨_,u,x,u,y,(s.trans U),(w64_rng _)⟩
  refine wc_exit (qe_then_exit (qe_then_exit ?_))
  cases oi k
  cases q _ u
  refine qe_block_eq ?_
  cases oi o
  exact qd ⟨_,f,u,u,i,s⟩
 rintro _ w9 ⟨s5,W,rfl,rfl,X,aj⟩
 have c:=elim_l c
 refine qr (mv u (lv (rv_slen underlying9 u) (lv (rv_leq u u) (av u (nq (wc_ret ?_))))))
 cases oi c
 exact ey results63 ⟨W,u,X⟩

theorem ok_spec_l6Ok {q0:GDoc}{r:Bool}(hS:SH w K [] w K [])(aJ:rng64 q0.Id)(G:SliceAt tGField K A a b q0.Fields)(D:SliceAt tGAttr K B c d q0.Nums)(hm:M.spec_l6Ok F q0=some r):
  Calls prog 49 #[.agg #[V6 q0.Id,V3 A a b,V3 B c d]] w (R_b w K r):=by
 rw [M.spec_l6Ok] at hm
 refine ci func49 u ntmps49 (sr (bx u hS fun k da aK=>?_))
 have aL:SH _ _ _ _ _ [obj k [V6 q0.Id,V3 A a b,V3 B c d] 61]:=aK
 refine lv (r_f u) (nsr (lv (r_0 u) (nq ?_)))
 obtain⟨aM,aN,J⟩:=ob hm
 refine wc_cutg (IE aM w K [] K [(1,pt k)] [obj k [V6 q0.Id,V3 A a b,V3 B c d] 61]) ?_ ?_
 ·refine wc_block ?_
  obtain⟨db,aO,ap⟩:=ob aN
  refine qw (fun (O:Int)=>IW w K [] K [(1,pt k),(3,V6 O)] [obj k [V6 q0.Id,V3 A a b,V3 B c d] 61] (rng64 O)) aO ⟨K,u,aL,kr,d_0⟩ ?_
  rintro O _ dc dd aP aq ⟨ar,rfl,H,I,de⟩
  refine wc_seq (sr (mv u (fl ff61_1 u tf58 m0 H u (lv (rv_len underlying58 u (G.mono I)) (lv (rv_lss u u) (nq (wcc aP u (fun aQ W=>?_) (fun aQ W=>?_))))))))
  ·refine wc_skip (qs (wc_block (sr (fl ff61_1 u tf58 m0 H u (mv u ?_)))))
   obtain⟨R,aR,aS⟩:=ob W
   refine li underlying58 tf82 (G.mono I) aR fun aT aU df aV aW=>?_
   obtain⟨rfl,aX,aY⟩:=aV
   have aZ:AtK _ aT aU [sv R.Name,sv R.Text]:=aW
   refine lv (rv_loadS tf82 u H aZ u) (al tf82 H fun ba dg bb=>?_)
   have bc:SH _ _ _ _ _ [obj ba [sv [],sv []] 82,_]:=bb
   refine lw [sv R.Name,sv R.Text] tf82 bc fun dh bd=>(ns ?_)
   obtain⟨be,bf,bg⟩:=ob aS
   refine wc_cutg (IV w K [] ar [(1,pt k),(3,V6 O),(43,.bool be)] [obj k [V6 q0.Id,V3 A a b,V3 B c d] 61]) ?_ ?_
   ·refine wc_quiet mixed (by kernel_rfl) bd (kv (rv_fieldAddr ff82_0 u) (kh (rq_loadm1 tf9 u m0 u) ?_))
    obtain⟨di,bh,bi⟩:=ob bf
    refine kc co42 (fun _ _ bj dj=>(ok_spec_l1WordOk F) bj.enter0 aX bh) (kv (rv_not u) (km u (bt bi (fun q X=>?_) (fun q X=>?_))))
    ·refine kn q (kn q (kn q (kn q (kv (p_t u q u) (km u (qv u u u u (qv u u u u (qv u u u u ?_))))))))
     iterate 10 refine ku ?_
     refine qv u u u u (kv (p_t u u u) (wq_nil ?_))
     rintro dk ⟨bk,bl,bm⟩
     cases oi X
     exact qd ⟨bk,u,bl.s,bm⟩
    refine kg q (rv_fieldAddr ff82_1 u) (kgh q (rq_loadm1 tf9 u m0 u) ?_)
    obtain⟨dl,bn,bo⟩:=ob X
    refine kcg q co63 (fun _ _ bp dm=>(ok_spec_l1Text F) bp.enter0 aY bn) (kg q (rv_not u) (kv (rv_pick_f u q u) (km u (bt bo (fun l Y=>?_) (fun l Y=>?_)))))
    ·refine kn l (kn l (kn l ?_))
     iterate 10 refine ku ?_
     refine kn l (kv (p_t u l u) (wq_nil ?_))
     rintro dn ⟨bq,br,bs⟩
     cases oi Y
     exact qd ⟨bq,u,br.s,bs⟩
    refine kg l (rv_move u) (kg l (rv_gtr u u) (kg l (rv_move u) (bt Y (fun i aa=>?_) (fun i aa=>?_))))
    ·refine kg i (rv_fieldAddr ff82_0 u) (kgh i (rq_loadm1 tf9 u m0 u) (kg i (rv_fieldAddr ff61_1 u) (kgh i (rq_loadm1 tf58 u m1 u) (kg i (rv_move u) (kg i (rv_sub u u) ?_)))))
     obtain⟨au,bu,bv⟩:=ob aa
     refine wq_indexAddr (t:=tGField) (wg u u i) u underlying58 tf82 u u (G.mono I) bu fun bz bA dp bB bC=>?_
     obtain⟨rfl,dq,dr⟩:=bB
     have bD:AtK _ bz bA [sv au.Name,sv au.Text]:=bC
     refine kg i (rv_fieldAddr ff82_0 u) (kgh i (rq_load1 tf9 u (bD 0 _ u)) (kg i (rv_sleq u u) (kg l (rv_pick_t u i u) (kv (rv_pick_f u l u) (wq_nil ?_)))))
     rintro ds ⟨bE,bF,bG⟩
     cases oi bv
     exact qd ⟨bE,u,bF.s,bG⟩
    iterate 10 refine kn i ?_
    refine kg l (p_f u i u) (kv (rv_pick_f u l u) (wq_nil ?_))
    rintro dt ⟨bH,bI,bJ⟩
    cases oi aa
    exact qd ⟨bH,u,bI.s,bJ⟩
   rintro _ du ⟨aw,rfl,ax,bK⟩
   refine qe_seq (wcc bg u (fun bL ab=>?_) (fun bL ab=>?_))
   ·refine sr (lv (r_f u) (nq (wc_ret (qe_block_ret (qe_then_ret (qe_then_ret ?_))))))
    cases oi ab
    cases aq _ u
    refine qe_block_ret (qe_then_ret ?_)
    cases oi ap
    refine qe_then_ret ?_
    cases oi J
    exact ey results49 ⟨aw,u,ax.s⟩
   refine wc_skip (qe_block (qe_seq (wc_region (mv u (lv (rv_add u u) (av u (wl_nil ?_)))))))
   cases oi ab
   exact qd ⟨_,u,aw,u,ax,(I.trans bK),(w64_rng _)⟩
  refine wc_exit (qe_then_exit (qe_then_exit ?_))
  cases oi W
  cases aq _ u
  refine qe_block_eq ?_
  cases oi ap
  exact qd ⟨_,ar,u,u,H,I⟩
 rintro _ dv ⟨dw,ac,rfl,rfl,bM,y⟩
 have J:=elim_l J
 refine qs (sr (lv (r_0 u) (nq ?_)))
 obtain⟨bN,bO,S⟩:=ob J
 refine wc_cutg (IE bN w K [] ac [(1,pt k)] [obj k [V6 q0.Id,V3 A a b,V3 B c d] 61]) ?_ ?_
 ·refine wc_block ?_
  obtain⟨dx,bP,ay⟩:=ob bO
  refine qw (fun (T:Int)=>IW w K [] ac [(1,pt k),(5,V6 T)] [obj k [V6 q0.Id,V3 A a b,V3 B c d] 61] (rng64 T)) bP ⟨ac,u,bM,kr,d_0⟩ ?_
  rintro T _ dy dz bQ az ⟨aA,rfl,ad,C,dA⟩
  refine wc_seq (sr (mv u (fl ff61_2 u tf59 m0 ad u (lv (rv_len underlying59 u (D.mono (y.trans C))) (lv (rv_lss u u) (nq (wcc bQ u (fun bR ae=>?_) (fun bR ae=>?_))))))))
  ·refine wc_skip (qs (wc_block (wc_seq ?_)))
   obtain⟨bS,bT,bU⟩:=ob ae
   refine wc_cutg (IV w K [] aA [(1,pt k),(5,V6 T),(88,.bool bS)] [obj k [V6 q0.Id,V3 A a b,V3 B c d] 61]) ?_ ?_
   ·refine wc_quiet mixed (by kernel_rfl) ad (kv (rv_fieldAddr ff61_2 u) (kh (rq_loadm1 tf59 u m0 u) (km u ?_)))
    obtain⟨aB,bV,bW⟩:=ob bT
    refine ki underlying59 tf84 (D.mono (y.trans C)) bV fun bX bY dB bZ ca=>?_
    obtain⟨rfl,cb,dC⟩:=bZ
    have cc:AtK _ bX bY [sv aB.Name,V6 aB.Num]:=ca
    refine kv (rv_fieldAddr ff84_0 u) (kh (rq_load1 tf9 u (cc 0 _ u)) ?_)
    obtain⟨dD,cd,ce⟩:=ob bW
    refine kc co42 (fun _ _ cf dE=>(ok_spec_l1WordOk F) cf.enter0 cb cd) (kv (rv_not u) (km u (bt ce (fun o af=>?_) (fun o af=>?_))))
    ·iterate 8 refine kn o ?_
     refine kv (p_t u o u) (km u (qv u u u u (qv u u u u (qv u u u u ?_))))
     iterate 14 refine ku ?_
     refine qv u u u u (kv (p_t u u u) (wq_nil ?_))
     rintro dF ⟨cg,ch,cj⟩
     cases oi af
     exact qd ⟨cg,u,ch,cj⟩
    refine kg o (rv_fieldAddr ff61_2 u) (kgh o (rq_loadm1 tf59 u m0 u) (kg o (rv_move u) ?_))
    obtain⟨aC,ck,cl⟩:=ob af
    refine wq_indexAddr (t:=tGAttr) (wg u u o) u underlying59 tf84 u u (D.mono (y.trans C)) ck fun cm cn dG cp cq=>?_
    obtain⟨rfl,dH,cr⟩:=cp
    have cs:AtK _ cm cn [sv aC.Name,V6 aC.Num]:=cq
    refine kg o (rv_fieldAddr ff84_1 u) (kgh o (rq_load1 tf3 u (cs 1 _ u)) ?_)
    obtain⟨dI,ct,cu⟩:=ob cl
    refine kcg o co31 (fun _ _ cv dJ=>(ok_spec_l1In F) cv.enter0 cr d_0 (by decide :rng64 999999999) ct) (kg o (rv_not u) (kv (rv_pick_f u o u) (km u (bt cu (fun m ag=>?_) (fun m ag=>?_)))))
    ·refine kn m (kn m (kn m ?_))
     iterate 14 refine ku ?_
     refine kn m (kv (p_t u m u) (wq_nil ?_))
     rintro dK ⟨cw,cx,cy⟩
     cases oi ag
     exact qd ⟨cw,u,cx,cy⟩
    refine kg m (rv_move u) (kg m (rv_gtr u u) (kg m (rv_move u) (bt ag (fun f ah=>?_) (fun f ah=>?_))))
    ·refine kg f (rv_fieldAddr ff61_2 u) (kgh f (rq_loadm1 tf59 u m0 u) (kg f (rv_move u) ?_))
     obtain⟨aD,cz,cA⟩:=ob ah
     refine wq_indexAddr (t:=tGAttr) (wg u u f) u underlying59 tf84 u u (D.mono (y.trans C)) cz fun cB cC dL cD cE=>?_
     obtain⟨rfl,dM,dN⟩:=cD
     have cF:AtK _ cB cC [sv aD.Name,V6 aD.Num]:=cE
     refine kg f (rv_fieldAddr ff84_0 u) (kgh f (rq_load1 tf9 u (cF 0 _ u)) (kg f (rv_fieldAddr ff61_2 u) (kgh f (rq_loadm1 tf59 u m0 u) (kg f (rv_move u) (kg f (rv_sub u u) ?_)))))
     obtain⟨aE,cG,cH⟩:=ob cA
     refine wq_indexAddr (t:=tGAttr) (wg u u f) u underlying59 tf84 u u (D.mono (y.trans C)) cG fun cI cJ dO cK cL=>?_
     obtain⟨rfl,dP,dQ⟩:=cK
     have cM:AtK _ cI cJ [sv aE.Name,V6 aE.Num]:=cL
     refine kg f (rv_fieldAddr ff84_0 u) (kgh f (rq_load1 tf9 u (cM 0 _ u)) (kg f (rv_sleq u u) (kg m (rv_pick_t u f u) (kv (rv_pick_f u m u) (wq_nil ?_)))))
     rintro dR ⟨cN,cO,cP⟩
     cases oi cH
     exact qd ⟨cN,u,cO,cP⟩
    iterate 14 refine kn f ?_
    refine kg m (p_f u f u) (kv (rv_pick_f u m u) (wq_nil ?_))
    rintro dS ⟨cQ,cR,cS⟩
    cases oi ah
    exact qd ⟨cQ,u,cR,cS⟩
   rintro _ dT ⟨aF,rfl,aG,cT⟩
   refine qe_seq (wcc bU u (fun cU ai=>?_) (fun cU ai=>?_))
   ·refine sr (lv (r_f u) (nq (wc_ret (qe_block_ret (qe_then_ret (qe_then_ret ?_))))))
    cases oi ai
    cases az _ u
    refine qe_block_ret (qe_then_ret ?_)
    cases oi ay
    refine qe_then_ret ?_
    cases oi S
    exact ey results49 ⟨aF,u,aG.s⟩
   refine wc_skip (qe_block (qe_seq (wc_region (mv u (lv (rv_add u u) (av u (wl_nil ?_)))))))
   cases oi ai
   exact qd ⟨_,u,aF,u,aG,(C.trans cT),(w64_rng _)⟩
  refine wc_exit (qe_then_exit (qe_then_exit ?_))
  cases oi ae
  cases az _ u
  refine qe_block_eq ?_
  cases oi ay
  exact qd ⟨_,aA,u,u,ad,C⟩
 rintro _ dU ⟨dV,dW,rfl,rfl,aj,ak⟩
 have S:=elim_l S
 refine qr (fl ff61_0 u tf3 m0 aj u ?_)
 obtain⟨dX,cV,cW⟩:=ob S
 refine lk co31 (ok_spec_l1In F aj.enter0 aJ (by decide :rng64 1) (by decide :rng64 9999) cV) ?_
 rintro dY dZ ⟨cX,rfl,U⟩
 have V:=(aj.c0 U).t1
 refine mv u (bt cW (fun s am=>?_) (fun s am=>?_))
 ·refine lg s (rv_fieldAddr ff61_1 u) (lg s (rv_loadm1 tf58 u m0 V u) (lg s (rv_len underlying58 u (G.mono ((y.trans ak).trans U.le))) ?_))
  obtain⟨ea,cY,cZ⟩:=ob am
  refine wl_call (wg u u s) u (rt_call (vs:=[V6 (q0.Fields.length:Int),V6 0,V6 3]) co31 u) (ok_spec_l1In F V.enter0 (rng_nat (SliceAt.max (G.mono ((y.trans ak).trans U.le)))) d_0 (by decide :rng64 3) cY) ?_
  rintro eb ec ⟨aH,rfl,aI⟩
  refine⟨_,u,?_⟩
  have an:=(V.c0 aI).t1
  refine lv (rv_pick_t u s u) (mv u (bt cZ (fun x ao=>?_) (fun x ao=>?_)))
  ·refine lg x (rv_fieldAddr ff61_2 u) (lg x (rv_loadm1 tf59 u m0 an u) (lg x (rv_len underlying59 u (SliceAt.mono (((y.trans ak).trans U.le).trans aI.le) D)) (lg x (rv_leq u u) (lv (rv_pick_t u x u) (av u (nq (wc_ret ?_)))))))
   cases oi ao
   exact ey results49 ⟨aH,u,an.s⟩
  refine lu x (lu x (lu x (lu x (lv (p_f u x u) (av u (nq (wc_ret ?_)))))))
  cases oi ao
  exact ey results49 ⟨aH,u,an.s⟩
 refine lu s (lu s (lu s (lu s (lv (p_f u s u) (mv u (lu u (lu u (lu u (lu u ?_)))))))))
 refine lv (p_f u u u) (av u (nq (wc_ret ?_)))
 cases oi am
 exact ey results49 ⟨cX,u,V.s⟩

theorem ok_spec_l6Docs {q0:List GDoc}{r:Bool}(hS:SH w K [] w K [])(i:SliceAt tGDoc K A a b q0)(hm:M.spec_l6Docs F q0=some r):
  Calls prog 30 #[V3 A a b] w (R_b w K r):=by
 rw [M.spec_l6Docs] at hm
 refine ci func30 u ntmps30 (sr (lv (r_f u) (nsr (lv (r_0 u) (nq ?_)))))
 obtain⟨I,J,k⟩:=ob hm
 refine wc_cutg (IE I w K [] K [(0,V3 A a b)] []) ?_ ?_
 ·refine wc_block ?_
  obtain⟨bk,O,x⟩:=ob J
  refine qw (fun (l:Int)=>IW w K [] K [(0,V3 A a b),(3,V6 l)] [] (rng64 l)) O ⟨K,u,hS,kr,d_0⟩ ?_
  rintro l _ bl bm R y ⟨B,rfl,C,f,bn⟩
  refine wc_seq (sr (mv u (mv u (lv (rv_len underlying33 u (i.mono f)) (lv (rv_lss u u) (nq (wcc R u (fun S m=>?_) (fun S m=>?_))))))))
  ·refine wc_skip (qs (wc_block (wc_seq ?_)))
   obtain⟨T,U,V⟩:=ob m
   refine wc_cutg (IV w K [] B [(0,V3 A a b),(3,V6 l),(33,.bool T)] []) ?_ ?_
   ·refine wc_quiet mixed (by kernel_rfl) C (km u (km u ?_))
    obtain⟨W,X,Y⟩:=ob U
    refine ki underlying33 tf61 (i.mono f) X fun aa ab bo ac ad=>?_
    obtain⟨ae,af,ag,ah,ai,aj,rfl,ak,al,am⟩:=ac
    have an:AtK _ aa ab [V6 W.Id,V3 ae af ag,V3 ah ai aj]:=ad
    refine kh (rq_loadS tf61 u an u) ?_
    obtain⟨bp,ao,ap⟩:=ob Y
    refine kc co49 (fun _ _ aq D=>(ok_spec_l6Ok F) aq.enter0 ak (al.mono D) (am.mono D) ao) (kv (rv_not u) (km u (bt ap (fun d o=>?_) (fun d o=>?_))))
    ·refine kn d (kn d (kn d ?_))
     iterate 12 refine ku ?_
     refine kn d (kv (p_t u d u) (wq_nil ?_))
     rintro bq ⟨ar,au,aw⟩
     cases oi o
     exact qd ⟨ar,u,au,aw⟩
    refine kg d (rv_move u) (kg d (rv_gtr u u) (kg d (rv_move u) (bt o (fun c q=>?_) (fun c q=>?_))))
    ·refine kg c (rv_move u) (kg c (rv_move u) ?_)
     obtain⟨ax,ay,az⟩:=ob q
     refine wq_indexAddr (t:=tGDoc) (wg u u c) u underlying33 tf61 u u (i.mono f) ay fun aA aB br aC aD=>?_
     obtain⟨aE,aF,aG,aH,aI,aJ,rfl,bs,bu,bv⟩:=aC
     have aK:AtK _ aA aB [V6 ax.Id,V3 aE aF aG,V3 aH aI aJ]:=aD
     refine kg c (rv_fieldAddr ff61_0 u) (kgh c (rq_load1 tf3 u (aK 0 _ u)) (kg c (rv_move u) (kg c (rv_move u) (kg c (rv_sub u u) ?_))))
     obtain⟨aL,aM,aN⟩:=ob az
     refine wq_indexAddr (t:=tGDoc) (wg u u c) u underlying33 tf61 u u (i.mono f) aM fun aO aP bx aQ aR=>?_
     obtain⟨aS,aT,aU,aV,aW,aX,rfl,bz,bA,bB⟩:=aQ
     have aY:AtK _ aO aP [V6 aL.Id,V3 aS aT aU,V3 aV aW aX]:=aR
     refine kg c (rv_fieldAddr ff61_0 u) (kgh c (rq_load1 tf3 u (aY 0 _ u)) (kg c (rv_leq u u) (kg d (rv_pick_t u c u) (kv (rv_pick_f u d u) (wq_nil ?_)))))
     rintro bC ⟨aZ,ba,bb⟩
     cases oi aN
     exact qd ⟨aZ,u,ba,bb⟩
    iterate 12 refine kn c ?_
    refine kg d (p_f u c u) (kv (rv_pick_f u d u) (wq_nil ?_))
    rintro bD ⟨bc,bd,be⟩
    cases oi q
    exact qd ⟨bc,u,bd,be⟩
   rintro _ bE ⟨G,rfl,H,bf⟩
   refine qe_seq (wcc V u (fun bg s=>?_) (fun bg s=>?_))
   ·refine sr (lv (r_f u) (nq (wc_ret (qe_block_ret (qe_then_ret (qe_then_ret ?_))))))
    cases oi s
    cases y _ u
    refine qe_block_ret (qe_then_ret ?_)
    cases oi x
    refine qe_then_ret ?_
    cases oi k
    exact ey results30 ⟨G,u,H⟩
   refine wc_skip (qe_block (qe_seq (wc_region (mv u (lv (rv_add u u) (av u (wl_nil ?_)))))))
   cases oi s
   exact qd ⟨_,u,G,u,H,(f.trans bf),(w64_rng _)⟩
  refine wc_exit (qe_then_exit (qe_then_exit ?_))
  cases oi m
  cases y _ u
  refine qe_block_eq ?_
  cases oi x
  exact qd ⟨_,B,u,u,C,f⟩
 rintro _ bF ⟨s8,K9,rfl,rfl,bi,bj⟩
 have k:=elim_l k
 refine qr (mv u (lv (rv_len underlying33 u (i.mono bj)) (lv (rv_leq u u) (av u (nq (wc_ret ?_))))))
 cases oi k
 exact ey results30 ⟨K9,u,bi⟩

theorem ok_spec_l7CopyDoc {q0:GDoc}{r:GDoc}(hS:SH w K [] w K [])(G:rng64 q0.Id)(H:SliceAt tGField K A a b q0.Fields)(I:SliceAt tGAttr K B c d q0.Nums)(hm:M.spec_l7CopyDoc F q0=some r):
  Calls prog 32 #[.agg #[V6 q0.Id,V3 A a b,V3 B c d]] w fun e w'=>∃a_2 n_3 c_4 a_6 n_7 c_8 K',e= .returned (.agg #[V6 r.Id,V3 a_2 n_3 c_4,V3 a_6 n_7 c_8])∧SH w K [] w' K' [tail (V3 a_2 n_3 c_4) 82 2,tail (V3 a_6 n_7 c_8) 84 2]∧rng64 r.Id∧SliceAt tGField K' a_2 n_3 c_4 r.Fields∧SliceAt tGAttr K' a_6 n_7 c_8 r.Nums:=by
 rw [M.spec_l7CopyDoc] at hm
 refine ci func32 u ntmps32 (sr (bx u hS fun aC aX aE=>?_))
 have aF:SH _ _ _ _ _ [obj aC [V6 q0.Id,V3 A a b,V3 B c d] 61]:=aE
 refine al tf61 aF fun aG aY aH=>?_
 have aI:SH _ _ _ _ _ [obj aG [V6 0,V3 none 0 0,V3 none 0 0] 61,_]:=aH
 refine ns ?_
 obtain⟨aZ,J,aJ⟩:=ob hm
 obtain⟨ba,O,R⟩:=ob aJ
 have v:=aI.drew
 refine j_0 (fun w'=>Holds K w'∧HasObj aC [V6 q0.Id,V3 A a b,V3 B c d] w') 12 [] mixed ⟨v.hasK kr,v.hasObj m1⟩ (jv 0 u (rv_fieldAddr ff61_0 u) (jh 1 u (fun _ h=>rh_loadm1 tf3 u u h.2) (jv 3 u (rv_fieldAddr ff61_1 u) (jh 4 u (fun _ h=>rh_loadm1 tf58 u u h.2) (jv 7 u (rv_fieldAddr ff61_2 u) (jh 8 u (fun _ h=>rh_loadm1 tf59 u u h.2) (j2 2 6 u u ?_ ?_)))))))
 ·refine b0 tGField underlying58 tf82 v fun bb bc bd f aD x=>(j_o ⟨x.hasK f,x.hasObj m2⟩ (j2 5 6 u u ?_ ?_))
  ·refine lp underlying58 tf82 aD (H.mono f) J x fun S T U be bf m aK V=>(j_o ⟨V.hasK (f.trans m),V.hasObj m2⟩ (j1 6 u (b0 tGAttr underlying59 tf84 V fun bg bh bi o aL W=>(j_o ⟨W.hasK ((f.trans m).trans o),W.hasObj m3⟩ (j1 9 u (lp underlying59 tf84 aL (I.mono ((f.trans m).trans o)) O W fun X Y aa bj aM ab aN ac=>(j_o ⟨ac.hasK (((f.trans m).trans o).trans ab),ac.hasObj m3⟩ (jv 10 u (rv_build (cs:=#[V6 q0.Id,V3 S T U,V3 X Y aa]) sp61 tf61 u (by kernel_rfl)) (j1 11 u ?_)))))))))
   refine lw [V6 q0.Id,V3 S T U,V3 X Y aa] tf61 ac.f2 fun bk y=>(j_o ⟨y.hasK (((f.trans m).trans o).trans ab),y.hasObj m3⟩ (jd (qe_seq (wc_ret ?_))))
   cases oi R
   exact ez results32 tf61 y m0 ⟨S,T,U,X,Y,aa,aM,u,y.f1.f2.s,G,(aK.mono (o.trans ab)),aN⟩
  refine b0 tGAttr underlying59 tf84 x fun bl bm bn i aO ad=>(j_o ⟨ad.hasK (f.trans i),ad.hasObj m3⟩ (j1 5 u (lp underlying58 tf82 (aD.mono i) (H.mono (f.trans i)) J ad.f1 fun ae af ag bo bp q aP ah=>(j_o ⟨ah.hasK ((f.trans i).trans q),ah.hasObj m3⟩ (j1 9 u (lp underlying59 tf84 (aO.mono q) (I.mono ((f.trans i).trans q)) O ah.f1 fun ai aj ak bq aQ am aR an=>(j_o ⟨an.hasK (((f.trans i).trans q).trans am),an.hasObj m3⟩ (jv 10 u (rv_build (cs:=#[V6 q0.Id,V3 ae af ag,V3 ai aj ak]) sp61 tf61 u (by kernel_rfl)) (j1 11 u ?_)))))))))
  refine lw [V6 q0.Id,V3 ae af ag,V3 ai aj ak] tf61 an.f2 fun br C=>(j_o ⟨C.hasK (((f.trans i).trans q).trans am),C.hasObj m3⟩ (jd (qe_seq (wc_ret ?_))))
  cases oi R
  exact ez results32 tf61 C m0 ⟨ae,af,ag,ai,aj,ak,aQ,u,C.f1.f2.s,G,(aP.mono am),aR⟩
 refine b0 tGAttr underlying59 tf84 v fun bs bu bv k aS ao=>(j_o ⟨ao.hasK k,ao.hasObj m2⟩ (j1 2 u (b0 tGField underlying58 tf82 ao fun bz bA bB l aT ap=>(j_o ⟨ap.hasK (k.trans l),ap.hasObj m3⟩ (j1 5 u (lp underlying58 tf82 aT (H.mono (k.trans l)) J ap fun aq ar au bC bD s aU aw=>(j_o ⟨aw.hasK ((k.trans l).trans s),aw.hasObj m3⟩ (j1 9 u (lp underlying59 tf84 (aS.mono (l.trans s)) (I.mono ((k.trans l).trans s)) O aw.f1 fun ax ay az bE aV aA aW aB=>?_)))))))))
 refine j_o ⟨aB.hasK (((k.trans l).trans s).trans aA),aB.hasObj m3⟩ (jv 10 u (rv_build (cs:=#[V6 q0.Id,V3 aq ar au,V3 ax ay az]) sp61 tf61 u (by kernel_rfl)) (j1 11 u (lw [V6 q0.Id,V3 aq ar au,V3 ax ay az] tf61 aB.f2 fun bF D=>(j_o ⟨D.hasK (((k.trans l).trans s).trans aA),D.hasObj m3⟩ (jd (qe_seq (wc_ret ?_)))))))
 cases oi R
 exact ez results32 tf61 D m0 ⟨aq,ar,au,ax,ay,az,aV,u,D.f1.f2.s,G,(aU.mono aA),aW⟩

theorem ok_spec_ShardOf {q0:List GDoc}{q1:Int}{q2:Int}{r:(List GDoc)}(hS:SH w K [] w K [])(B:SliceAt tGDoc K A a b q0)(am:rng64 q1)(an:rng64 q2)(hm:M.spec_ShardOf F q0 q1 q2=some r):
  Calls prog 15 #[V3 A a b,V6 q1,V6 q2] w fun e w'=>∃a_1 n_2 c_3 K',e= .returned (V3 a_1 n_2 c_3)∧SH w K [] w' K' [tail (V3 a_1 n_2 c_3) 61 3]∧SliceAt tGDoc K' a_1 n_2 c_3 r:=by
 rw [M.spec_ShardOf] at hm
 refine ci func15 u ntmps15 (sr (lv (r_n u) (nr (b0 tGDoc underlying33 tf61 hS fun J w9 ao C ap ai=>(av u (ns (wc_seq ?_)))))))
 obtain⟨aq,ar,au⟩:=ob hm
 refine wc_cutg (IV w K [] ao [(0,V3 A a b),(1,V6 q1),(2,V6 q2),(7,V3 J 0 0),(24,.bool aq)] [tail (V3 J 0 0) 61 3]) ?_ ?_
 ·refine wc_region (mv u ?_)
  obtain⟨bV,aw,ax⟩:=ob ar
  refine lk co30 (ok_spec_l6Docs F ai.enter0 (B.mono C) aw) ?_
  rintro bW bX ⟨ay,rfl,D⟩
  have O:=(ai.c0 D).t1
  refine lv (rv_not u) (mv u (bt ax (fun c R=>?_) (fun c R=>?_)))
  ·refine lu c (lu c (lu c (lv (p_t u c u) (mv u ?_))))
   iterate 5 refine lu u ?_
   refine lv (p_t u u u) (wl_nil ?_)
   cases oi R
   exact qd ⟨ay,u,O,D.le⟩
  refine lg c (rv_move u) ?_
  obtain⟨bY,az,aA⟩:=ob R
  refine wl_call (wg u u c) u (rt_call (vs:=[V6 q1,V6 1,V6 4]) co31 u) (ok_spec_l1In F O.enter0 am (by decide :rng64 1) (by decide :rng64 4) az) ?_
  rintro bZ ca ⟨aB,rfl,S⟩
  refine⟨_,u,?_⟩
  have T:=(O.c0 S).t1
  refine lg c (rv_not u) (lv (rv_pick_f u c u) (mv u (bt aA (fun d U=>?_) (fun d U=>?_))))
  ·iterate 5 refine lu d ?_
   refine lv (p_t u d u) (wl_nil ?_)
   cases oi U
   exact qd ⟨aB,u,T,(D.le.trans S.le)⟩
  refine lg d (rv_move u) (lg d (rv_move u) (lg d (rv_sub u u) ?_))
  obtain⟨cb,aC,aD⟩:=ob U
  refine wl_call (wg u u d) u (rt_call (vs:=[V6 q2,V6 0,V6 (w64 (q1-(1:Int)))]) co31 u) (ok_spec_l1In F T.enter0 an d_0 (w64_rng _) aC) ?_
  rintro cc cd ⟨aE,rfl,aj⟩
  refine⟨_,u,?_⟩
  have aF:=(T.c0 aj).t1
  refine lg d (rv_not u) (lv (rv_pick_f u d u) (wl_nil ?_))
  cases oi aD
  exact qd ⟨aE,u,aF,((D.le.trans S.le).trans aj.le)⟩
 rintro _ ce ⟨G,rfl,ak,H⟩
 refine qe_seq (wcc au u (fun aG V=>?_) (fun aG V=>?_))
 ·refine sr (lv (r_n u) (nq (rr ?_)))
  cases oi V
  have aH:=ak.nil 61 3
  exact ey results15 ⟨none,0,0,G,u,aH.s,(SliceAt.nil _ _)⟩
 refine wc_skip (qs (sr (lv (r_0 u) (nq ?_))))
 obtain⟨aI,aJ,aK⟩:=ob V
 refine wc_cutg (fun E' w'=>∃q s x y,E'=[(7,V3 q s x)]∧SH w K [] w' y [tail (V3 q s x) 61 3]∧KLe G y∧SliceAt tGDoc y q s x aI) ?_ ?_
 ·refine wc_block ?_
  obtain⟨cf,aL,aM⟩:=ob aJ
  refine qw (fun (I:(List GDoc)×Int) E' w'=>∃f i k l,E'=[(0,V3 A a b),(1,V6 q1),(2,V6 q2),(7,V3 f i k),(8,V6 I.2)]∧SH w K [] w' l [tail (V3 f i k) 61 3]∧KLe G l∧SliceAt tGDoc l f i k I.1∧rng64 I.2) aL ⟨J,0,0,G,u,ak,kr,(ap.mono H),d_0⟩ ?_
  rintro I _ cg ch aN aO ⟨f,i,k,l,rfl,m,o,W,cj⟩
  refine wc_seq (sr (mv u (mv u (lv (rv_len underlying33 u (B.mono ((C.trans H).trans o))) (lv (rv_lss u u) (nq (wcc aN u (fun aP X=>?_) (fun aP X=>?_))))))))
  ·refine wc_skip (qs (wc_block (sr (mv u (mv u ?_)))))
   obtain⟨aQ,aR,aS⟩:=ob X
   refine li underlying33 tf61 (B.mono ((C.trans H).trans o)) aR fun aT aU ck aV aW=>?_
   obtain⟨aX,aY,aZ,ba,bb,bc,rfl,cl,cm,cn⟩:=aV
   have bd:AtK _ aT aU [V6 aQ.Id,V3 aX aY aZ,V3 ba bb bc]:=aW
   refine fa ff61_0 u (lv (rv_load1 tf3 u m (bd 0 _ u)) (mv u ?_))
   obtain⟨cp,be,bf⟩:=ob aS
   refine lv (rv_rem u u be) (mv u (lv (rv_eql u u) (nq (wcc bf u (fun bg Y=>?_) (fun bg Y=>?_)))))
   ·refine wc_region (mv u (mv u (mv u ?_)))
    obtain⟨bh,bi,bj⟩:=ob Y
    refine li underlying33 tf61 (B.mono ((C.trans H).trans o)) bi fun bk bl cq bm bn=>?_
    obtain⟨bo,bp,bq,br,bs,bu,rfl,bv,bx,bz⟩:=bm
    have bA:AtK _ bk bl [V6 bh.Id,V3 bo bp bq,V3 br bs bu]:=bn
    refine lv (rv_loadS tf61 u m bA u) ?_
    obtain⟨aa,bB,bC⟩:=ob bj
    refine lk co32 (ok_spec_l7CopyDoc F m.enter0 bv bx bz bB) ?_
    rintro cr cs ⟨ab,ac,ad,ae,af,ag,ct,rfl,ah,bD,bE,bF⟩
    have bG:=(m.c0 ah).t3
    refine lb tGDoc (.agg #[V6 aa.Id,V3 ab ac ad,V3 ae af ag]) [V6 aa.Id,V3 ab ac ad,V3 ae af ag] aa underlying33 tf61 ⟨ab,ac,ad,ae,af,ag,u,bD,bE,bF⟩ bG fun cu cv cw al bH bI=>?_
    obtain⟨cx,bJ,bK⟩:=ob bC
    refine lp underlying33 tf61 (W.mono (ah.le.trans al)) bH bJ bI.f3 fun bL bM bN cy bO bP bQ bR=>(av u (nb (qe_seq (wc_region (mv u (lv (rv_add u u) (av u (wl_nil ?_))))))))
    cases oi bK
    exact qd ⟨_,u,bL,bM,bN,bO,u,bR.s,(((o.trans ah.le).trans al).trans bP),bQ,(w64_rng _)⟩
   refine wc_skip (qe_block (qe_seq (wc_region (mv u (lv (rv_add u u) (av u (wl_nil ?_)))))))
   cases oi Y
   exact qd ⟨_,u,f,i,k,l,u,m,o,W,(w64_rng _)⟩
  refine wc_exit (qe_then_exit (qe_then_exit ?_))
  cases oi X
  cases aO _ u
  refine qe_block_eq ?_
  cases oi aM
  exact qd ⟨f,i,k,l,u,m,o,W⟩
 rintro _ cz ⟨q,s,x,y,rfl,bS,cA,bT⟩
 refine qr (mv u (av u (nq (wc_ret ?_))))
 cases oi aK
 exact ey results15 ⟨q,s,x,y,u,bS,bT⟩

theorem ok_laws_toField {q0:GField}{r:GField}(hS:SH w K [] w K [])(f:q0.Name.length≤maxLen)(i:q0.Text.length≤maxLen)(hm:M.laws_toField F q0=some r):
  Calls prog 64 #[.agg #[sv q0.Name,sv q0.Text]] w fun e w'=>∃K',e= .returned (.agg #[sv r.Name,sv r.Text])∧SH w K [] w' K' []∧r.Name.length≤maxLen∧r.Text.length≤maxLen:=by
 rw [M.laws_toField] at hm
 refine ci func64 u ntmps64 (sr (bx u hS fun g3 x k=>?_))
 have l:SH _ _ _ _ _ [obj g3 [sv q0.Name,sv q0.Text] 88]:=k
 refine al tf82 l fun m y o=>?_
 have q:SH _ _ _ _ _ [obj m [sv [],sv []] 82,_]:=o
 refine nr (al tf82 q fun s A v=>?_)
 have a:SH _ _ _ _ _ [obj s [sv [],sv []] 82,_,_]:=v
 refine nr (fl ff88_0 u tf9 m2 a u (fa ff82_0 u (ls [sv q0.Name,sv []] (sv q0.Name) tf9 a fun B b=>(nr (fl ff88_1 u tf9 m2 b u (fa ff82_1 u (ls [sv q0.Name,sv q0.Text] (sv q0.Text) tf9 b fun C c=>(nr (lv (rv_loadmS (ds:=[sv q0.Name,sv q0.Text]) tf82 u m0 c u u) ?_)))))))))
 refine lw [sv q0.Name,sv q0.Text] tf82 c.f1 fun D d=>(nq (wc_ret ?_))
 cases oi hm
 exact ez results64 tf82 d m0 ⟨K,u,d.s,f,i⟩

theorem ok_laws_toFieldS {q0:List GField}{r:(List GField)}(hS:SH w K [] w K [])(y:SliceAt tGField K A a b q0)(hm:M.laws_toFieldS F q0=some r):
  Calls prog 50 #[V3 A a b] w fun e w'=>∃a_1 n_2 c_3 K',e= .returned (V3 a_1 n_2 c_3)∧SH w K [] w' K' [tail (V3 a_1 n_2 c_3) 82 2]∧SliceAt tGField K' a_1 n_2 c_3 r:=by
 rw [M.laws_toFieldS] at hm
 refine ci func50 u ntmps50 (sr (lv (r_n u) (nr (mv u (lv (rv_len underlying52 u y) ?_)))))
 obtain⟨O,R,S⟩:=ob hm
 refine wl_make (t:=tGField) wn u underlying58 tf82 u u u R ⟨u,(by decide :([]:Str).length≤maxLen),(by decide :([]:Str).length≤maxLen)⟩ hS fun f cs9 aA hmx13 hrow11 T=>?_
 obtain⟨m14,hm15⟩: ∃m,m=O.length:=⟨_,u⟩
 rw [←hm15] at hmx13
 rw [←hm15]
 refine av u (nsr (lv (r_0 u) (nq ?_)))
 obtain⟨D,U,V⟩:=ob S
 refine wc_cutg (fun E' w'=>∃cs23 l,E'=[(3,V3 (some ⟨f,0,none⟩) m14 m14)]∧SH w K [] w' l [obj f cs23 82]∧KLe K l∧RowAt true tGField l cs23 D∧m14=D.length) ?_ ?_
 ·refine wc_block ?_
  obtain⟨aB,W,X⟩:=ob U
  refine qw (fun (c:Int×(List GField)) E' w'=>∃cs36 k,E'=[(0,V3 A a b),(3,V3 (some ⟨f,0,none⟩) m14 m14),(4,V6 c.1)]∧SH w K [] w' k [obj f cs36 82]∧KLe K k∧rng64 c.1∧RowAt true tGField k cs36 c.2∧m14=c.2.length) W ⟨cs9,K,u,T,kr,d_0,hrow11,hm15⟩ ?_
  rintro c _ aC aD Y aa ⟨cs36,k,rfl,o,q,aE,hrow37,hm38⟩
  refine wc_seq (sr (mv u (mv u (lv (rv_len underlying52 u (y.mono q)) (lv (rv_lss u u) (nq (wcc Y u (fun ab B=>?_) (fun ab B=>?_))))))))
  ·refine wc_skip (qs (wc_block (wc_region (mv u (mv u (mv u (mv u ?_)))))))
   obtain⟨G,ac,ad⟩:=ob B
   refine li underlying52 tf88 (y.mono q) ac fun ae af aF ag ah=>?_
   obtain⟨rfl,ai,aj⟩:=ag
   have ak:AtK _ ae af [sv G.Name,sv G.Text]:=ah
   refine lv (rv_loadS tf88 u o ak u) ?_
   obtain⟨s,al,am⟩:=ob ad
   refine lk co64 (ok_laws_toField F o.enter0 ai aj al) ?_
   rintro aG aH ⟨an,rfl,x,ao,ap⟩
   have aq:=(o.c0 x).t1
   obtain⟨H,C,ar⟩:=ob am
   obtain⟨aI,au,aw⟩:=RowAt.at (RowAt.mono x.le hrow37) C
   obtain⟨rfl,aJ,aK⟩:=au
   have aL: ∀(j:Nat) (d:Value),[sv H.Name,sv H.Text][j]? =some d→cs36[c.1.toNat*tGField.size+j]? =some d:=aw
   refine lv (rv_indexRow (t:=tGField) underlying58 tf82 u u hm38 C) (wl_storeRow (t:=tGField) (v:=.agg #[sv s.Name,sv s.Text]) (e:=s) wn tf82 u u ⟨u,ao,ap⟩ aq (RowAt.mono x.le hrow37) C fun cs74 aM hrow76 ax=>?_)
   have hm78:=hm38.trans (List.length_set (i:=c.1.toNat) (a:=s)).symm
   refine nb (qe_seq (wc_region (mv u (lv (rv_add u u) (av u (wl_nil ?_))))))
   cases oi ar
   exact qd ⟨_,u,cs74,an,u,ax,(q.trans x.le),(w64_rng _),hrow76,hm78⟩
  refine wc_exit (qe_then_exit (qe_then_exit ?_))
  cases oi B
  cases aa _ u
  refine qe_block_eq ?_
  cases oi X
  exact qd ⟨cs36,k,u,o,q,hrow37,hm38⟩
 rintro _ aN ⟨cs23,l,rfl,ay,aO,hrow24,hm25⟩
 refine qr (mv u (av u (nq (wc_ret ?_))))
 obtain⟨az,aP,I,J⟩:=SH.freeze ay hrow24 (row_max hm25 hmx13)
 rw [←hm25] at I J
 cases oi V
 exact ey results50 ⟨(some ⟨f,0,none⟩),m14,m14,az,u,J,I⟩

theorem bag_laws_toFieldS (F:Nat){w:World}{K:KMap}{a1:Option Addr}{n2 c3:Nat}{p0_a:List GField}{r:(List GField)}(hS:SH w K [] w K [])(hs4:SliceAt tGField K a1 n2 c3 p0_a)(hm:M.laws_toFieldS F p0_a=some r):
  Calls Try.prog 50 #[.slice a1 n2 c3] w fun e w'=>∃(a_1:Option Addr) (n_2 c_3:Nat) (K':KMap) (B':List Nat),e= .returned (.slice a_1 n_2 c_3)∧SH w K [] w' K' [bag B']∧SliceAt tGField (K'.only B') a_1 n_2 c_3 r:=
 (ok_laws_toFieldS F hS hs4 hm).mono fun e w' ⟨a,n,c,K',he,hS',hs'⟩=>
  let ⟨B,hB,hb⟩:=SH.bagTail hS'
  ⟨a,n,c,K',B,he,hB,SliceAt.only_flat (t:=tGField) (fun h=>h) hs' hb⟩
end Go.Proofs.Ytpjefkdclnmlfaa
