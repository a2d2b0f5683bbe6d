/-
 Walks of the functions. Printed by gen.py.
-/
import Derived.Test.YtepcfgnicnibnaaFacts
set_option linter.unusedVariables false
set_option linter.unusedSectionVars false
set_option maxRecDepth 100000
namespace Go.Proofs.Ytepcfgnicnibnaa
set_option maxHeartbeats 4000000
open Go Go.Fk Go.RowKit Try
variable (F:Nat){w:World}{K:KMap}{Z:List Nat}{g1 g2 g3:Nat}{A B C D G H I J O R S T:Option Addr}{a b c d f i k l m n o p q s v x y aa ab ac ad ae af ag:Nat}
variable [dr:Dr]

theorem ok_laws_szArcS {q0:List GArc}{q1:Int}{r:Int}(hS:SH w K [] w K [])(f:SliceAt tGArc K A a b q0)(i:rng64 q1)(hm:M.laws_szArcS F q0 q1=some r):
  Calls prog 81 #[V3 A a b,V6 q1] w (R_i w K r):=by
 rw [M.laws_szArcS] at hm
 refine ci func81 u ntmps81 (sr (lv (r_0 u) (nr (mv u (mv u (lv (rv_len underlying69 u f) (lv (rv_sub u u) (av u (nsr ?_)))))))))
 refine mv u (lv (rv_lss u u) (nq (wc_cond u (fun c=>?_) (fun c=>?_))))
 ·have d:=cond_t c hm
  refine sr (lv (rv_assign (v:=V6 (-1)) u) (nq (rr ?_)))
  cases oi d
  exact ey results81 ⟨K,u,hS,(by decide :rng64 (-1))⟩
 have d:=cond_f c hm
 refine wc_skip (qr (mv u (av u (nq (wc_ret ?_)))))
 cases oi d
 exact ey results81 ⟨K,u,hS,(w64_rng _)⟩

theorem ok_laws_szState {q0:GState}{q1:Int}{r:Int}(hS:SH w K [] w K [])(C:rng64 q0.Many)(k:SliceAt tGArc K A a b q0.Arcs)(l:rng64 q1)(hm:M.laws_szState F q0 q1=some r):
  Calls prog 48 #[.agg #[.bool q0.Final,V6 q0.Many,V3 A a b],V6 q1] w (R_i w K r):=by
 rw [M.laws_szState] at hm
 refine ci func48 u ntmps48 (sr (bx u hS fun m D o=>?_))
 have c:SH _ _ _ _ _ [obj m [.bool q0.Final,V6 q0.Many,V3 A a b] 71]:=o
 refine lv (r_0 u) (nr (fl ff71_2 u tf69 m0 c u (mv u ?_)))
 obtain⟨G,q,s⟩:=ob hm
 refine lk co81 (ok_laws_szArcS F c.enter0 k l q) ?_
 rintro H I ⟨f,rfl,x,y⟩
 have i:=(c.c0 x).t1
 refine av u (nsr (mv u (lv (rv_lss u u) (nq (wcc s u (fun B d=>?_) (fun B d=>?_))))))
 ·refine sr (lv (rv_assign (v:=V6 (-1)) u) (nq (rr ?_)))
  cases oi d
  exact ey results48 ⟨f,u,i.s,(by decide :rng64 (-1))⟩
 refine wc_skip (qr (mv u (av u (nq (wc_ret ?_)))))
 cases oi d
 exact ey results48 ⟨f,u,i.s,y⟩

theorem ok_laws_szStateS {q0:List GState}{q1:Int}{r:Int}(hS:SH w K [] w K [])(m:SliceAt tGState K A a b q0)(ao:rng64 q1)(hm:M.laws_szStateS F q0 q1=some r):
  Calls prog 16 #[V3 A a b,V6 q1] w (R_i w K r):=by
 rw [M.laws_szStateS] at hm
 refine ci func16 u ntmps16 (sr (lv (r_0 u) (nr (mv u (mv u (lv (rv_len underlying33 u m) (lv (rv_sub u u) (av u (nsr ?_)))))))))
 refine mv u (lv (rv_lss u u) (nq (wc_cond u (fun o=>?_) (fun o=>?_))))
 ·have q:=cond_t o hm
  refine sr (lv (rv_assign (v:=V6 (-1)) u) (nq (rr ?_)))
  cases oi q
  exact ey results16 ⟨K,u,hS,(by decide :rng64 (-1))⟩
 have q:=cond_f o hm
 refine wc_skip (qs (sr (lv (r_0 u) (nq ?_))))
 obtain⟨J,O,d⟩:=ob q
 refine wc_cutg (fun E' w'=>∃f i,J= .inl f∧E'=[(1,V6 f)]∧SH w K [] w' i []∧KLe K i∧rng64 f) ?_ ?_
 ·refine wc_block ?_
  obtain⟨ap,R,y⟩:=ob O
  refine qw (fun (c:Int×Int)=>IW w K [] K [(0,V3 A a b),(1,V6 c.1),(5,V6 c.2)] [] (rng64 c.1∧rng64 c.2)) R ⟨K,u,hS,kr,(w64_rng _),d_0⟩ ?_
  rintro c _ aq ar S B ⟨T,rfl,k,l,C,au⟩
  refine wc_seq (sr (mv u (mv u (lv (rv_len underlying33 u (m.mono l)) (lv (rv_lss u u) (nq (wcc S u (fun U s=>?_) (fun U s=>?_))))))))
  ·refine wc_skip (qs (wc_block (sr (mv u (mv u ?_)))))
   obtain⟨D,V,W⟩:=ob s
   refine li underlying33 tf71 (m.mono l) V fun X Y aw aa ab=>?_
   obtain⟨ac,ad,ae,rfl,af,ag⟩:=aa
   have ah:AtK _ X Y [.bool D.Final,V6 D.Many,V3 ac ad ae]:=ab
   refine lv (rv_loadS tf71 u k ah u) (mv u ?_)
   obtain⟨ax,ai,aj⟩:=ob W
   refine lk co48 (ok_laws_szState F k.enter0 af ag C ai) ?_
   rintro ay az ⟨G,rfl,H,ak⟩
   have I:=(k.c0 H).t0
   refine av u (nr (mv u (lv (rv_lss u u) (nq (wcc aj u (fun al x=>?_) (fun al x=>?_))))))
   ·refine sr (lv (rv_assign (v:=V6 (-1)) u) (nq (wc_ret (qe_block_ret (qe_then_ret (qe_then_ret ?_))))))
    cases oi x
    cases B _ u
    refine qe_block_ret (qe_then_ret ?_)
    cases oi y
    refine qe_then_ret ?_
    cases oi d
    exact ey results16 ⟨G,u,I,(by decide :rng64 (-1))⟩
   refine wc_skip (qe_block (qe_seq (wc_region (mv u (lv (rv_add u u) (av u (wl_nil ?_)))))))
   cases oi x
   exact qd ⟨_,u,G,u,I,(l.trans H.le),ak,(w64_rng _)⟩
  refine wc_exit (qe_then_exit (qe_then_exit ?_))
  cases oi s
  cases B _ u
  refine qe_block_eq ?_
  cases oi y
  exact qd ⟨_,T,u,u,k,l,C⟩
 rintro _ aA ⟨f,i,rfl,rfl,am,aB,an⟩
 have d:=elim_l d
 refine qr (mv u (av u (nq (wc_ret ?_))))
 cases oi d
 exact ey results16 ⟨i,u,am,an⟩

theorem ok_spec_l4All (F:Nat): ∀{w:World} {K:KMap} {c:Option Addr} {d f:Nat} {q0:List GState} {q1:Int} {q2:Str} {r:(List Str)} (hS:SH w K [] w K []) (i:SliceAt tGState K c d f q0) (ah:rng64 q1) (X:q2.length≤maxLen) (hm:M.spec_l4All F q0 q1 q2=some r),
  Calls prog 51 #[V3 c d f,V6 q1,sv q2] w fun e w'=>∃a_1 n_2 c_3 K',e= .returned (V3 a_1 n_2 c_3)∧SH w K [] w' K' [tail (V3 a_1 n_2 c_3) 9 1]∧SliceAt tStr K' a_1 n_2 c_3 r:=by
 induction F with
 | zero=>intros;rename_i hm;rw [M.spec_l4All] at hm;cases hm
 | succ F ih=>
  intro w K c d f q0 q1 q2 r hS i ah X hm
  rw [M.spec_l4All] at hm
  refine ci func51 u ntmps51 (sr (lv (r_n u) (nr (b0 tStr underlying35 tf9 hS fun a7 w9 Y H aa J=>(av u (nsr (mv u (mv u ?_))))))))
  obtain⟨ab,aj,ak⟩:=ob hm
  refine li underlying37 tf78 (i.mono H) aj fun am an bY ao ap=>?_
  obtain⟨aq,ar,au,rfl,bZ,ca⟩:=ao
  have aw:AtK _ am an [.bool ab.Final,V6 ab.Many,V3 aq ar au]:=ap
  refine fa ff78_0 u (lv (rv_load1 tf4 u J (aw 0 _ u)) (nq ?_))
  obtain⟨ax,ay,az⟩:=ob ak
  refine wc_cutg (fun E' w'=>∃k l m b,E'=[(0,V3 c d f),(1,V6 q1),(2,sv q2),(7,V3 k l m)]∧SH w K [] w' b [tail (V3 k l m) 9 1]∧KLe Y b∧SliceAt tStr b k l m ax) ?_ ?_
  ·refine wcc ay u (fun aA O=>?_) (fun aA O=>?_)
   ·refine wc_region (mv u (mv u (lb tStr (sv q2) [sv q2] q2 underlying35 tf9 ⟨u,X⟩ J fun cb cc cd ac aB aC=>?_)))
    obtain⟨ce,aD,aE⟩:=ob O
    refine lp underlying35 tf9 (aa.mono ac) aB aD aC.f1 fun aF aG aH cf aI aJ aK aL=>(av u (wl_nil ?_))
    cases oi aE
    exact qd ⟨aF,aG,aH,aI,u,aL.s,(ac.trans aJ),aK⟩
   refine wc_skip ?_
   cases oi O
   exact qd ⟨a7,0,0,Y,u,J,kr,aa⟩
  rintro _ cg ⟨k,l,m,b,rfl,aM,R,aN⟩
  refine qs (sr (lv (r_0 u) (nq ?_)))
  obtain⟨aO,aP,aQ⟩:=ob az
  refine wc_cutg (fun E' w'=>∃o q s x,E'=[(7,V3 o q s)]∧SH w K [] w' x [tail (V3 o q s) 9 1]∧KLe b x∧SliceAt tStr x o q s aO) ?_ ?_
  ·refine wc_block ?_
   obtain⟨ch,aR,aS⟩:=ob aP
   refine qw (fun (I:(List Str)×Int) E' w'=>∃y A B C,E'=[(0,V3 c d f),(1,V6 q1),(2,sv q2),(7,V3 y A B),(8,V6 I.2)]∧SH w K [] w' C [tail (V3 y A B) 9 1]∧KLe b C∧SliceAt tStr C y A B I.1∧rng64 I.2) aR ⟨k,l,m,b,u,aM,kr,aN,d_0⟩ ?_
   rintro I _ cj ck aT aU ⟨y,A,B,C,rfl,D,G,ad,cl⟩
   refine wc_seq (sr (mv u (mv u (mv u ?_))))
   obtain⟨ae,aV,aW⟩:=ob aT
   refine li underlying37 tf78 (i.mono ((H.trans R).trans G)) aV fun aX aY cm aZ ba=>?_
   obtain⟨bb,bc,bd,rfl,cn,be⟩:=aZ
   have bf:AtK _ aX aY [.bool ae.Final,V6 ae.Many,V3 bb bc bd]:=ba
   refine fa ff78_2 u (lv (rv_load1 tf76 u D (bf 2 _ u)) (lv (rv_len underlying76 u be) (lv (rv_lss u u) (nq (wcc aW u (fun bg S=>?_) (fun bg S=>?_))))))
   ·refine wc_skip (qs (wc_block (sr (mv u (mv u ?_)))))
    obtain⟨af,bh,bi⟩:=ob S
    refine li underlying37 tf78 (i.mono ((H.trans R).trans G)) bh fun bj bk cp bl bm=>?_
    obtain⟨bn,bo,bp,rfl,cq,bq⟩:=bl
    have br:AtK _ bj bk [.bool af.Final,V6 af.Many,V3 bn bo bp]:=bm
    refine fa ff78_2 u (lv (rv_load1 tf76 u D (br 2 _ u)) (mv u ?_))
    obtain⟨a,bs,bu⟩:=ob bi
    refine li underlying76 tf116 bq bs fun bv bx cr bz bA=>?_
    obtain⟨rfl,bB⟩:=bz
    have bC:AtK _ bv bx [iv8 a.Byte,V6 a.To]:=bA
    refine lv (rv_loadS tf116 u D bC u) (al tf116 D fun bD cs bE=>?_)
    have bF:SH _ _ _ _ _ [obj bD [iv8 0,V6 0] 116,_]:=bE
    refine wl_store (cs':=[iv8 a.Byte,V6 a.To]) (v:=.agg #[iv8 a.Byte,V6 a.To]) wn tf116 u u u (by simp [Value.cells,Value.oneCell',iv8]) bF u u fun ct T=>(nq (wc_region (mv u (mv u (fl ff116_1 u tf3 m0 T u (mv u (fl ff116_0 u tf5 m0 T u (lb tU8 (iv8 a.Byte) [iv8 a.Byte] a.Byte underlying117 tf5 u T fun cu cv cw U bG V=>(lv (rv_b2s underlying117 underlying5 underlying9 u bG V) ?_)))))))))
    obtain⟨cx,ag,bH⟩:=ob bu
    refine lv (rv_sadd u u ag) ?_
    obtain⟨cy,bI,bJ⟩:=ob bH
    refine lk co51 (ih V.enter0 (SliceAt.mono (((H.trans R).trans G).trans U) i) bB (len_cat ag) bI) ?_
    rintro cz cA ⟨cB,cC,cD,cE,rfl,W,bK⟩
    have bL:=(V.c0 W).t4
    obtain⟨cF,bM,bN⟩:=ob bJ
    refine lp underlying35 tf9 (ad.mono (U.trans W.le)) bK bM bL.f3 fun bO bP bQ cG bR bS bT bU=>(av u (nb (qe_seq (wc_region (mv u (lv (rv_add u u) (av u (wl_nil ?_))))))))
    cases oi bN
    exact qd ⟨_,u,bO,bP,bQ,bR,u,bU.s,(((G.trans U).trans W.le).trans bS),bT,(w64_rng _)⟩
   refine wc_exit (qe_then_exit (qe_then_exit ?_))
   cases oi S
   cases aU _ u
   refine qe_block_eq ?_
   cases oi aS
   exact qd ⟨y,A,B,C,u,D,G,ad⟩
  rintro _ cH ⟨o,q,s,x,rfl,bV,cI,bW⟩
  refine qr (mv u (av u (nq (wc_ret ?_))))
  cases oi aQ
  exact ey results51 ⟨o,q,s,x,u,bV,bW⟩

theorem ok_spec_l1In {q0:Int}{q1:Int}{q2:Int}{r:Bool}(hS:SH w K [] w K [])(c:rng64 q0)(d:rng64 q1)(f:rng64 q2)(hm:M.spec_l1In F q0 q1 q2=some r):
  Calls prog 38 #[V6 q0,V6 q1,V6 q2] w (R_b w K r):=by
 rw [M.spec_l1In] at hm
 refine ci func38 u ntmps38 (sr (lv (r_f u) (nr (mv u (mv u (lv (rv_geq u u) (mv u (bt hm (fun a b=>?_) (fun a b=>?_)))))))))
 ·refine lg a (rv_move u) (lg a (rv_move u) (lg a (rv_leq u u) (lv (rv_pick_t u a u) (av u (nq (wc_ret ?_))))))
  cases oi b
  exact ey results38 ⟨K,u,hS⟩
 refine lu a (lu a (lu a (lv (p_f u a u) (av u (nq (wc_ret ?_))))))
 cases oi b
 exact ey results38 ⟨K,u,hS⟩

theorem ok_spec_l1Fold {q0:UInt8}{r:UInt8}(hS:SH w K [] w K [])(hm:M.spec_l1Fold F q0=some r):
  Calls prog 110 #[iv8 q0] w fun e w'=>∃K',e= .returned (iv8 r)∧SH w K [] w' K' []:=by
 rw [M.spec_l1Fold] at hm
 refine ci func110 u ntmps110 (sr (lv (rv_assign (v:=iv8 0) u) (ns (wc_block (wc_seq ?_)))))
 obtain⟨D,G,H⟩:=ob hm
 refine wc_cutg (IV w K [] K [(0,iv8 q0),(3,.bool D)] []) ?_ ?_
 ·refine wc_region (mv u (lv (rv_bge (b:=(65:UInt8)) u u) (mv u (bt G (fun c m=>?_) (fun c m=>?_)))))
  ·refine lg c (rv_move u) (lg c (rv_ble (b:=(90:UInt8)) u u) (lv (rv_pick_t u c u) (av u (wl_nil ?_))))
   cases oi m
   exact qd ⟨K,u,hS,kr⟩
  refine lu c (lu c (lv (p_f u c u) (av u (wl_nil ?_))))
  cases oi m
  exact qd ⟨K,u,hS,kr⟩
 rintro _ T ⟨d,rfl,l,U⟩
 refine qe_seq (wcc H u (fun I o=>?_) (fun I o=>?_))
 ·refine sr (mv u (lv (rv_badd (b:=(32:UInt8)) u u) (av u (nq (wc_ret (qe_block_ret (qe_then_ret ?_)))))))
  cases oi o
  exact ey results110 ⟨d,u,l⟩
 refine wc_seq ?_
 obtain⟨J,O,R⟩:=ob o
 refine wc_cutg (IV w K [] d [(0,iv8 q0),(12,.bool J)] []) ?_ ?_
 ·refine wc_region (mv u (lv (rv_bge (b:=(97:UInt8)) u u) (mv u (bt O (fun f q=>?_) (fun f q=>?_)))))
  ·refine lg f (rv_move u) (lg f (rv_ble (b:=(122:UInt8)) u u) (lv (rv_pick_t u f u) (mv u (bt q (fun a s=>?_) (fun a s=>?_)))))
   ·refine lu a (lu a (lu a (wl_un (uu u u) u (wl_un (uu u u) u (lu a (lv (p_t u a u) (av u (wl_nil ?_))))))))
    cases oi s
    exact qd ⟨d,u,l,kr⟩
   refine lg a (rv_move u) (lg a (rv_bge (b:=(48:UInt8)) u u) (lg a (rv_move u) (bt s (fun i x=>?_) (fun i x=>?_))))
   ·refine lg i (rv_move u) (lg i (rv_ble (b:=(57:UInt8)) u u) (lg a (rv_pick_t u i u) (lv (rv_pick_f u a u) (av u (wl_nil ?_)))))
    cases oi x
    exact qd ⟨d,u,l,kr⟩
   refine lu i (lu i (lg a (p_f u i u) (lv (rv_pick_f u a u) (av u (wl_nil ?_)))))
   cases oi x
   exact qd ⟨d,u,l,kr⟩
  refine lu f (lu f (lv (p_f u f u) (mv u (lg u (rv_move u) (lg u (rv_bge (b:=(48:UInt8)) u u) (lg u (rv_move u) (bt q (fun k y=>?_) (fun k y=>?_))))))))
  ·refine lg k (rv_move u) (lg k (rv_ble (b:=(57:UInt8)) u u) (lg u (rv_pick_t u k u) (lv (rv_pick_f u u u) (av u (wl_nil ?_)))))
   cases oi y
   exact qd ⟨d,u,l,kr⟩
  refine lu k (lu k (lg u (p_f u k u) (lv (rv_pick_f u u u) (av u (wl_nil ?_)))))
  cases oi y
  exact qd ⟨d,u,l,kr⟩
 rintro _ V ⟨B,rfl,C,W⟩
 refine qe_seq (wcc R u (fun S A=>?_) (fun S A=>?_))
 ·refine sr (mv u (av u (nq (wc_ret (qe_block_ret (qe_then_ret ?_))))))
  cases oi A
  exact ey results110 ⟨B,u,C⟩
 refine wc_skip (qe_block (qr (lv (rv_assign (v:=iv8 0) u) (nq (wc_ret ?_)))))
 cases oi A
 exact ey results110 ⟨B,u,C⟩

theorem ok_spec_l1WordOk {q0:Str}{r:Bool}(hS:SH w K [] w K [])(B:q0.length≤maxLen)(hm:M.spec_l1WordOk F q0=some r):
  Calls prog 90 #[sv q0] w (R_b w K r):=by
 rw [M.spec_l1WordOk] at hm
 refine ci func90 u ntmps90 (sr (lv (r_f u) (nsr (lv (r_0 u) (nq ?_)))))
 obtain⟨C,D,c⟩:=ob hm
 refine wc_cutg (IE C w K [] K [(0,sv q0)] []) ?_ ?_
 ·refine wc_block ?_
  obtain⟨ap,G,l⟩:=ob D
  refine qw (fun (d:Int)=>IW w K [] K [(0,sv q0),(3,V6 d)] [] (rng64 d)) G ⟨K,u,hS,kr,d_0⟩ ?_
  rintro d _ aq ar H m ⟨o,rfl,q,s,au⟩
  refine wc_seq (sr (mv u (mv u (lv (rv_slen underlying9 u) (lv (rv_lss u u) (nq (wcc H u (fun I f=>?_) (fun I f=>?_))))))))
  ·refine wc_skip (qs (wc_block (wc_seq ?_)))
   obtain⟨J,O,R⟩:=ob f
   refine wc_cutg (IV w K [] o [(0,sv q0),(3,V6 d),(23,.bool J)] []) ?_ ?_
   ·refine wc_quiet mixed (by kernel_rfl) q (km u (km u ?_))
    obtain⟨aw,S,T⟩:=ob O
    refine kv (rv_sidx underlying9 u u S) ?_
    obtain⟨ax,U,V⟩:=ob T
    refine kc co110 (fun _ _ W ay=>(ok_spec_l1Fold F) W.enter0 U) (km u (km u ?_))
    obtain⟨az,X,Y⟩:=ob V
    refine kv (rv_sidx underlying9 u u X) (kv (rv_bne u u) (km u (bt Y (fun a i=>?_) (fun a i=>?_))))
    ·refine kn a (kn a (kn a (kn a (kv (p_t u a u) (wq_nil ?_)))))
     rintro aA ⟨aa,ab,ac⟩
     cases oi i
     exact qd ⟨aa,u,ab,ac⟩
    refine kg a (rv_move u) (kg a (rv_move u) ?_)
    obtain⟨aB,ad,ae⟩:=ob i
    refine kg a (rv_sidx underlying9 u u ad) (kg a (rv_beq (b:=(0:UInt8)) u u) (kv (rv_pick_f u a u) (wq_nil ?_)))
    rintro aC ⟨af,ag,ah⟩
    cases oi ae
    exact qd ⟨af,u,ag,ah⟩
   rintro _ aD ⟨x,rfl,y,ai⟩
   refine qe_seq (wcc R u (fun aj k=>?_) (fun aj k=>?_))
   ·refine sr (lv (r_f u) (nq (wc_ret (qe_block_ret (qe_then_ret (qe_then_ret ?_))))))
    cases oi k
    cases m _ u
    refine qe_block_ret (qe_then_ret ?_)
    cases oi l
    refine qe_then_ret ?_
    cases oi c
    exact ey results90 ⟨x,u,y⟩
   refine wc_skip (qe_block (qe_seq (wc_region (mv u (lv (rv_add u u) (av u (wl_nil ?_)))))))
   cases oi k
   exact qd ⟨_,u,x,u,y,(s.trans ai),(w64_rng _)⟩
  refine wc_exit (qe_then_exit (qe_then_exit ?_))
  cases oi f
  cases m _ u
  refine qe_block_eq ?_
  cases oi l
  exact qd ⟨_,o,u,u,q,s⟩
 rintro _ w9 ⟨s5,K6,rfl,rfl,A,aH⟩
 have c:=elim_l c
 refine qr (mv u (lv (rv_slen underlying9 u) ?_))
 obtain⟨aI,ak,al⟩:=ob c
 refine lk co38 (ok_spec_l1In F A.enter0 (rng_nat B) (by decide :rng64 1) (by decide :rng64 12) ak) ?_
 rintro aJ aK ⟨am,rfl,an⟩
 have ao:=(A.c0 an).t0
 refine av u (nq (wc_ret ?_))
 cases oi al
 exact ey results90 ⟨am,u,ao⟩

theorem ok_spec_l4Sorted {q0:List Str}{r:Bool}(hS:SH w K [] w K [])(i:SliceAt tStr K A a b q0)(hm:M.spec_l4Sorted F q0=some r):
  Calls prog 58 #[V3 A a b] w (R_b w K r):=by
 rw [M.spec_l4Sorted] at hm
 refine ci func58 u ntmps58 (sr (lv (r_f u) (nsr (lv (r_0 u) (nq ?_)))))
 obtain⟨H,I,k⟩:=ob hm
 refine wc_cutg (IE H w K [] K [(0,V3 A a b)] []) ?_ ?_
 ·refine wc_block ?_
  obtain⟨aP,J,x⟩:=ob I
  refine qw (fun (l:Int)=>IW w K [] K [(0,V3 A a b),(3,V6 l)] [] (rng64 l)) J ⟨K,u,hS,kr,d_0⟩ ?_
  rintro l _ aQ aR O y ⟨B,rfl,C,f,aS⟩
  refine wc_seq (sr (mv u (mv u (lv (rv_len underlying35 u (i.mono f)) (lv (rv_lss u u) (nq (wcc O u (fun R m=>?_) (fun R m=>?_))))))))
  ·refine wc_skip (qs (wc_block (wc_seq ?_)))
   obtain⟨S,T,U⟩:=ob m
   refine wc_cutg (IV w K [] B [(0,V3 A a b),(3,V6 l),(31,.bool S)] []) ?_ ?_
   ·refine wc_quiet mixed (by kernel_rfl) C (km u (km u ?_))
    obtain⟨V,W,X⟩:=ob T
    refine ki underlying35 tf9 (i.mono f) W fun Y aa aT ab ac=>?_
    obtain⟨rfl,ad⟩:=ab
    have ae:AtK _ Y aa [sv V]:=ac
    refine kh (rq_load1 tf9 u (ae 0 _ u)) ?_
    obtain⟨aU,af,ag⟩:=ob X
    refine kc co90 (fun _ _ ah aV=>(ok_spec_l1WordOk F) ah.enter0 ad af) (kv (rv_not u) (km u (bt ag (fun d o=>?_) (fun d o=>?_))))
    ·refine kn d (kn d (kn d ?_))
     iterate 10 refine ku ?_
     refine kn d (kv (p_t u d u) (wq_nil ?_))
     rintro aW ⟨ai,aj,ak⟩
     cases oi o
     exact qd ⟨ai,u,aj,ak⟩
    refine kg d (rv_move u) (kg d (rv_gtr u u) (kg d (rv_move u) (bt o (fun c q=>?_) (fun c q=>?_))))
    ·refine kg c (rv_move u) (kg c (rv_move u) ?_)
     obtain⟨al,am,an⟩:=ob q
     refine wq_indexAddr (t:=tStr) (wg u u c) u underlying35 tf9 u u (i.mono f) am fun ao ap aX aq ar=>?_
     obtain⟨rfl,aY⟩:=aq
     have au:AtK _ ao ap [sv al]:=ar
     refine kgh c (rq_load1 tf9 u (au 0 _ u)) (kg c (rv_move u) (kg c (rv_move u) (kg c (rv_sub u u) ?_)))
     obtain⟨aw,ax,ay⟩:=ob an
     refine wq_indexAddr (t:=tStr) (wg u u c) u underlying35 tf9 u u (i.mono f) ax fun az aA aZ aB aC=>?_
     obtain⟨rfl,ba⟩:=aB
     have aD:AtK _ az aA [sv aw]:=aC
     refine kgh c (rq_load1 tf9 u (aD 0 _ u)) (kg c (rv_sleq u u) (kg d (rv_pick_t u c u) (kv (rv_pick_f u d u) (wq_nil ?_))))
     rintro bb ⟨aE,aF,aG⟩
     cases oi ay
     exact qd ⟨aE,u,aF,aG⟩
    iterate 10 refine kn c ?_
    refine kg d (p_f u c u) (kv (rv_pick_f u d u) (wq_nil ?_))
    rintro bc ⟨aH,aI,aJ⟩
    cases oi q
    exact qd ⟨aH,u,aI,aJ⟩
   rintro _ bd ⟨D,rfl,G,aK⟩
   refine qe_seq (wcc U u (fun aL s=>?_) (fun aL s=>?_))
   ·refine sr (lv (r_f u) (nq (wc_ret (qe_block_ret (qe_then_ret (qe_then_ret ?_))))))
    cases oi s
    cases y _ u
    refine qe_block_ret (qe_then_ret ?_)
    cases oi x
    refine qe_then_ret ?_
    cases oi k
    exact ey results58 ⟨D,u,G⟩
   refine wc_skip (qe_block (qe_seq (wc_region (mv u (lv (rv_add u u) (av u (wl_nil ?_)))))))
   cases oi s
   exact qd ⟨_,u,D,u,G,(f.trans aK),(w64_rng _)⟩
  refine wc_exit (qe_then_exit (qe_then_exit ?_))
  cases oi m
  cases y _ u
  refine qe_block_eq ?_
  cases oi x
  exact qd ⟨_,B,u,u,C,f⟩
 rintro _ be ⟨s8,K9,rfl,rfl,aN,aO⟩
 have k:=elim_l k
 refine qr (mv u (lv (rv_len underlying35 u (i.mono aO)) (lv (rv_leq u u) (av u (nq (wc_ret ?_))))))
 cases oi k
 exact ey results58 ⟨K9,u,aN⟩

theorem ok_spec_l4Same {q0:GState}{q1:GState}{r:Bool}(hS:SH w K [] w K [])(aI:rng64 q0.Many)(C:SliceAt tGArc K A a b q0.Arcs)(aJ:rng64 q1.Many)(T:SliceAt tGArc K B c d q1.Arcs)(hm:M.spec_l4Same F q0 q1=some r):
  Calls prog 83 #[.agg #[.bool q0.Final,V6 q0.Many,V3 A a b],.agg #[.bool q1.Final,V6 q1.Many,V3 B c d]] w (R_b w K r):=by
 rw [M.spec_l4Same] at hm
 refine ci func83 u ntmps83 (sr (bx u hS fun l aK aa=>?_))
 have ab:SH _ _ _ _ _ [obj l [.bool q0.Final,V6 q0.Many,V3 A a b] 78]:=aa
 refine bx u ab fun m aL ac=>?_
 have i:SH _ _ _ _ _ [obj m [.bool q1.Final,V6 q1.Many,V3 B c d] 78,_]:=ac
 refine lv (r_f u) (ns (wc_seq ?_))
 obtain⟨ad,ae,af⟩:=ob hm
 refine wc_cutg (IV w K [] K [(2,pt l),(3,pt m),(26,.bool ad)] [obj l [.bool q0.Final,V6 q0.Many,V3 A a b] 78,obj m [.bool q1.Final,V6 q1.Many,V3 B c d] 78]) ?_ ?_
 ·refine wc_region (fl ff78_0 u tf4 m1 i u (fl ff78_0 u tf4 m0 i u (lv (rv_boolne underlying4 u u) (mv u (bt ae (fun k D=>?_) (fun k D=>?_))))))
  ·iterate 5 refine lu k ?_
   refine lv (p_t u k u) (mv u ?_)
   iterate 7 refine lu u ?_
   refine lv (p_t u u u) (wl_nil ?_)
   cases oi D
   exact qd ⟨K,u,i.f1,kr⟩
  refine lg k (rv_fieldAddr ff78_1 u) (lg k (rv_loadm1 tf3 u m1 i u) (lg k (rv_fieldAddr ff78_1 u) (lg k (rv_loadm1 tf3 u m0 i u) (lg k (rv_neq u u) (lv (rv_pick_f u k u) (mv u (bt D (fun f G=>?_) (fun f G=>?_))))))))
  ·iterate 7 refine lu f ?_
   refine lv (p_t u f u) (wl_nil ?_)
   cases oi G
   exact qd ⟨K,u,i.f1,kr⟩
  refine lg f (rv_fieldAddr ff78_2 u) (lg f (rv_loadm1 tf76 u m1 i u) (lg f (rv_len underlying76 u C) (lg f (rv_fieldAddr ff78_2 u) (lg f (rv_loadm1 tf76 u m0 i u) (lg f (rv_len underlying76 u T) (lg f (rv_neq u u) (lv (rv_pick_f u f u) (wl_nil ?_))))))))
  cases oi G
  exact qd ⟨K,u,i.f1,kr⟩
 rintro _ aM ⟨q,rfl,U,H⟩
 refine qe_seq (wcc af u (fun ag I=>?_) (fun ag I=>?_))
 ·refine sr (lv (r_f u) (nq (rr ?_)))
  cases oi I
  exact ey results83 ⟨q,u,U.s⟩
 refine wc_skip (qs (sr (lv (r_0 u) (nq ?_))))
 obtain⟨ah,ai,s⟩:=ob I
 refine wc_cutg (IE ah w K [] q [] []) ?_ ?_
 ·refine wc_block ?_
  obtain⟨aN,aj,V⟩:=ob ai
  refine qw (fun (J:Int)=>IW w K [] q [(2,pt l),(3,pt m),(5,V6 J)] [obj l [.bool q0.Final,V6 q0.Many,V3 A a b] 78,obj m [.bool q1.Final,V6 q1.Many,V3 B c d] 78] (rng64 J)) aj ⟨q,u,U,kr,d_0⟩ ?_
  rintro J _ aO aP ak W ⟨al,rfl,O,o,aQ⟩
  refine wc_seq (sr (mv u (fl ff78_2 u tf76 m0 O u (lv (rv_len underlying76 u (C.mono (H.trans o))) (lv (rv_lss u u) (nq (wcc ak u (fun am R=>?_) (fun am R=>?_))))))))
  ·refine wc_skip (qs (wc_block (wc_seq (wc_quiet mixed (by kernel_rfl) O (kv (rv_fieldAddr ff78_2 u) (kh (rq_loadm1 tf76 u m0 u) (km u ?_)))))))
   obtain⟨x,an,ao⟩:=ob R
   refine ki underlying76 tf116 (C.mono (H.trans o)) an fun ap aq aR ar au=>?_
   obtain⟨rfl,aS⟩:=ar
   have aw:AtK _ ap aq [iv8 x.Byte,V6 x.To]:=au
   refine kh (rq_loadS tf116 u aw u) (kv (rv_fieldAddr ff78_2 u) (kh (rq_loadm1 tf76 u m1 u) (km u ?_)))
   obtain⟨y,ax,ay⟩:=ob ao
   refine ki underlying76 tf116 (T.mono (H.trans o)) ax fun az aA aT aB aC=>?_
   obtain⟨rfl,aU⟩:=aB
   have aD:AtK _ az aA [iv8 y.Byte,V6 y.To]:=aC
   refine kh (rq_loadS tf116 u aD u) (kv (rv_neS eqg116 u u (eqs116 x.Byte x.To y.Byte y.To)) (wq_nil ?_))
   rintro aV ⟨X,Y,aE⟩
   refine qe_seq (wcc ay u (fun aF S=>?_) (fun aF S=>?_))
   ·refine sr (lv (r_f u) (nq (wc_ret (qe_block_ret (qe_then_ret (qe_then_ret ?_))))))
    cases oi S
    cases W _ u
    refine qe_block_ret (qe_then_ret ?_)
    cases oi V
    refine qe_then_ret ?_
    cases oi s
    exact ey results83 ⟨X,u,Y.s⟩
   refine wc_skip (qe_block (qe_seq (wc_region (mv u (lv (rv_add u u) (av u (wl_nil ?_)))))))
   cases oi S
   exact qd ⟨_,u,X,u,Y,(o.trans aE),(w64_rng _)⟩
  refine wc_exit (qe_then_exit (qe_then_exit ?_))
  cases oi R
  cases W _ u
  refine qe_block_eq ?_
  cases oi V
  exact qe_mid' ⟨_,al,u,u,O.s,o⟩ trivial
 rintro _ aW ⟨aX,aG,rfl,rfl,aH,aY⟩
 have s:=elim_l s
 refine qr (lv (r_t u) (nq (wc_ret ?_)))
 cases oi s
 exact ey results83 ⟨aG,u,aH⟩

theorem ok_spec_l4Add {q0:List GState}{q1:GState}{r:(List GState)×Int}(hS:SH w K Z w K [tail (V3 A a b) 78 3])(f:SliceAt tGState K A a b q0)(y:rng64 q1.Many)(C:SliceAt tGArc K B c d q1.Arcs)(hm:M.spec_l4Add F q0 q1=some r):
  Calls prog 91 #[V3 A a b,.agg #[.bool q1.Final,V6 q1.Many,V3 B c d]] w fun e w'=>∃a_1 n_2 c_3 K',e= .returned (.tuple #[V3 a_1 n_2 c_3,V6 r.2])∧SH w K Z w' K' [tail (V3 a_1 n_2 c_3) 78 3]∧SliceAt tGState K' a_1 n_2 c_3 r.1∧rng64 r.2:=by
 rw [M.spec_l4Add] at hm
 refine ci func91 u ntmps91 (sr (bx u hS fun k aI V=>?_))
 have W:SH _ _ _ _ _ [obj k [.bool q1.Final,V6 q1.Many,V3 B c d] 78,_]:=V
 refine lv (r_n u) (lv (r_0 u) (nsr (lv (r_0 u) (nq ?_))))
 obtain⟨X,Y,l⟩:=ob hm
 refine wc_cutg (IE X w K Z K [(0,V3 A a b),(3,pt k)] [obj k [.bool q1.Final,V6 q1.Many,V3 B c d] 78,tail (V3 A a b) 78 3]) ?_ ?_
 ·refine wc_block ?_
  obtain⟨aJ,aa,D⟩:=ob Y
  refine qw (fun (o:Int)=>IW w K Z K [(0,V3 A a b),(3,pt k),(6,V6 o)] [obj k [.bool q1.Final,V6 q1.Many,V3 B c d] 78,tail (V3 A a b) 78 3] (rng64 o)) aa ⟨K,u,W,kr,d_0⟩ ?_
  rintro o _ aK aL ab G ⟨ac,rfl,H,i,ad⟩
  refine wc_seq (sr (mv u (mv u (lv (rv_len underlying37 u (f.mono i)) (lv (rv_lss u u) (nq (wcc ab u (fun ae q=>?_) (fun ae q=>?_))))))))
  ·refine wc_skip (qs (wc_block (wc_seq (wc_quiet mixed (by kernel_rfl) H (km u (km u ?_))))))
   obtain⟨I,af,ag⟩:=ob q
   refine ki underlying37 tf78 (f.mono i) af fun ah ai aM aj ak=>?_
   obtain⟨al,am,an,rfl,ao,ap⟩:=aj
   have aq:AtK _ ah ai [.bool I.Final,V6 I.Many,V3 al am an]:=ak
   refine kh (rq_loadS tf78 u aq u) (kh (rq_loadmS (ds:=[.bool q1.Final,V6 q1.Many,V3 B c d]) tf78 u m0 u u) ?_)
   obtain⟨aN,ar,au⟩:=ob ag
   refine kc co83 (fun _ _ aw J=>(ok_spec_l4Same F) aw.enter0 ao (ap.mono J) y (C.mono (i.trans J)) ar) (wq_nil ?_)
   rintro aO ⟨O,R,S⟩
   refine qe_seq (wcc au u (fun ax s=>?_) (fun ax s=>?_))
   ·refine sr (mv u (mv u (av u (av u (nq (wc_ret (qe_block_ret (qe_then_ret (qe_then_ret ?_)))))))))
    cases oi s
    cases G _ u
    refine qe_block_ret (qe_then_ret ?_)
    cases oi D
    refine qe_then_ret ?_
    cases oi l
    exact qe_ret (vs:=[_,_]) results91 ⟨u,u,trivial⟩ ⟨A,a,b,O,u,R.s,(f.mono (i.trans S)),ad⟩
   refine wc_skip (qe_block (qe_seq (wc_region (mv u (lv (rv_add u u) (av u (wl_nil ?_)))))))
   cases oi s
   exact qd ⟨_,u,O,u,R,(i.trans S),(w64_rng _)⟩
  refine wc_exit (qe_then_exit (qe_then_exit ?_))
  cases oi q
  cases G _ u
  refine qe_block_eq ?_
  cases oi D
  exact qd ⟨_,ac,u,u,H,i⟩
 rintro _ aP ⟨aQ,aR,rfl,rfl,T,m⟩
 have l:=elim_l l
 refine qr (mv u (lv (rv_loadmS (ds:=[.bool q1.Final,V6 q1.Many,V3 B c d]) tf78 u m0 T u u) (lb tGState (.agg #[.bool q1.Final,V6 q1.Many,V3 B c d]) [.bool q1.Final,V6 q1.Many,V3 B c d] q1 underlying37 tf78 ⟨B,c,d,u,y,(C.mono m)⟩ T fun aS aT aU x ay az=>?_)))
 obtain⟨aV,aA,aB⟩:=ob l
 refine lp underlying37 tf78 (f.mono (m.trans x)) ay aA az.f2 fun aC aD aE aW aF U aG aH=>(mv u (lv (rv_len underlying37 u (f.mono ((m.trans x).trans U))) (av u (av u (nq (wc_ret ?_))))))
 cases oi aB
 exact qe_ret (vs:=[_,_]) results91 ⟨u,u,trivial⟩ ⟨aC,aD,aE,aF,u,aH.s,aG,(rng_nat (SliceAt.max (f.mono ((m.trans x).trans U))))⟩

theorem ok_spec_l4Build (F:Nat): ∀{w:World} {K:KMap} {a:Option Addr} {b c:Nat} {O:Option Addr} {R S:Nat} {q0:List GState} {q1:List Str} {q2:Int} {r:(List GState)×Int} (hS:SH w K (List.flatMap Item.gs [tail (V3 a b c) 78 3]) w K [tail (V3 a b c) 78 3]) (aH:SliceAt tGState K a b c q0) (A:SliceAt tStr K O R S q1) (aV:rng64 q2) (hm:M.spec_l4Build F q0 q1 q2=some r),
  Calls prog 59 #[V3 a b c,V3 O R S,V6 q2] w fun e w'=>∃a_1 n_2 c_3 K',e= .returned (.tuple #[V3 a_1 n_2 c_3,V6 r.2])∧SH w K (List.flatMap Item.gs [tail (V3 a b c) 78 3]) w' K' [tail (V3 a_1 n_2 c_3) 78 3]∧SliceAt tGState K' a_1 n_2 c_3 r.1∧rng64 r.2:=by
 induction F with
 | zero=>intros;rename_i hm;rw [M.spec_l4Build] at hm;cases hm
 | succ F ih=>
  intro w K a b c O R S q0 q1 q2 r hS aH A aV hm
  rw [M.spec_l4Build] at hm
  refine ci func59 u ntmps59 (sr (lv (r_n u) (lv (r_0 u) (nr (mv u (lv (rv_len underlying35 u A) (lv (rv_build (cs:=#[.bool false,V6 (q1.length:Int),V3 none 0 0]) sp78 tf78 u (by kernel_rfl)) (al tf78 hS fun d de aW=>?_))))))))
  have aX:SH _ _ _ _ _ [obj d [.bool false,V6 0,V3 none 0 0] 78,_]:=aW
  refine lw [.bool false,V6 (q1.length:Int),V3 none 0 0] tf78 aX fun df ap=>(ns (wc_seq ?_))
  obtain⟨aY,aZ,ba⟩:=ob hm
  refine wc_cutg (IV w K (List.flatMap Item.gs [tail (V3 a b c) 78 3]) K [(0,V3 a b c),(1,V3 O R S),(2,V6 q2),(8,pt d),(26,.bool aY)] [obj d [.bool false,V6 (q1.length:Int),V3 none 0 0] 78,tail (V3 none 0 0) 116 2,tail (V3 a b c) 78 3]) ?_ ?_
  ·refine wc_region (mv u (lv (rv_len underlying35 u A) (lv (rv_gtr u u) (mv u (bt aZ (fun x aq=>?_) (fun x aq=>?_))))))
   ·refine lg x (rv_move u) ?_
    obtain⟨bb,bc,bd⟩:=ob aq
    refine wl_indexAddr (t:=tStr) (wg u u x) u underlying35 tf9 u u A bc fun be bf dg bg bh=>?_
    obtain⟨rfl,dh⟩:=bg
    have bi:AtK _ be bf [sv bb]:=bh
    refine lg x (rv_load1 tf9 u ap (bi 0 _ u)) (lg x (rv_slen underlying9 u) (lg x (rv_move u) (lg x (rv_eql u u) (lv (rv_pick_t u x u) (wl_nil ?_)))))
    cases oi bd
    have bj:=ap.nil 116 2
    exact qd ⟨K,u,bj.f2.f1.f2,kr⟩
   iterate 6 refine lu x ?_
   refine lv (p_f u x u) (wl_nil ?_)
   cases oi aq
   have bk:=ap.nil 116 2
   exact qd ⟨K,u,bk.f2.f1.f2,kr⟩
  rintro _ di ⟨ar,rfl,aI,au⟩
  refine qe_seq ?_
  obtain⟨T,bl,bm⟩:=ob ba
  refine wc_cutg (fun E' w'=>∃ad ae af U V W B,E'=[(0,V3 a b c),(1,V3 ad ae af),(2,V6 q2),(8,pt d)]∧SH w K (List.flatMap Item.gs [tail (V3 a b c) 78 3]) w' B [obj d [.bool T.2.Final,V6 T.2.Many,V3 U V W] 78,tail (V3 U V W) 116 2,tail (V3 a b c) 78 3]∧KLe ar B∧SliceAt tStr B ad ae af T.1∧rng64 T.2.Many∧SliceAt tGArc B U V W T.2.Arcs) ?_ ?_
  ·refine wcc bl u (fun bn aw=>?_) (fun bn aw=>?_)
   ·refine sr (fa ff78_0 u (ls [.bool true,V6 (q1.length:Int),V3 none 0 0] (.bool true) tf4 aI fun dj bo=>(nq (wc_region (mv u ?_)))))
    obtain⟨dk,bp,bq⟩:=ob aw
    refine wl_sl_l (t:=tStr) wn u underlying35 tf9 u u (A.mono au) bp fun br bs bu bv=>(av u (wl_nil ?_))
    cases oi bq
    exact qd ⟨br,bs,bu,none,0,0,ar,u,bo,kr,bv,A.rn,(SliceAt.nil _ _)⟩
   refine wc_skip ?_
   cases oi aw
   exact qd ⟨O,R,S,none,0,0,ar,u,aI,kr,(A.mono au),A.rn,(SliceAt.nil _ _)⟩
  rintro _ dl ⟨ad,ae,af,U,V,W,B,rfl,bx,bz,bA,bB,bC⟩
  refine qs ?_
  obtain⟨C,bD,bE⟩:=ob bm
  refine wc_cutg (fun E' w'=>∃ag ah ai X Y aa ab,E'=[(0,V3 ag ah ai),(8,pt d)]∧SH w K (List.flatMap Item.gs [tail (V3 a b c) 78 3]) w' ab [obj d [.bool C.2.Final,V6 C.2.Many,V3 X Y aa] 78,tail (V3 X Y aa) 116 2,tail (V3 ag ah ai) 78 3]∧KLe B ab∧SliceAt tGState ab ag ah ai C.1∧rng64 C.2.Many∧SliceAt tGArc ab X Y aa C.2.Arcs) ?_ ?_
  ·refine wc_block ?_
   obtain⟨dm,bF,bG⟩:=ob bD
   refine qw (fun (f:(List GState)×(List Str)×GState) E' w'=>∃k l m G H I o q s y,E'=[(0,V3 k l m),(1,V3 G H I),(2,V6 q2),(8,pt d)]∧SH w K (List.flatMap Item.gs [tail (V3 a b c) 78 3]) w' y [obj d [.bool f.2.2.Final,V6 f.2.2.Many,V3 o q s] 78,tail (V3 o q s) 116 2,tail (V3 k l m) 78 3]∧KLe B y∧SliceAt tGState y k l m f.1∧SliceAt tStr y G H I f.2.1∧rng64 f.2.2.Many∧SliceAt tGArc y o q s f.2.2.Arcs) bF ⟨a,b,c,ad,ae,af,U,V,W,B,u,bx,kr,(aH.mono (au.trans bz)),bA,bB,bC⟩ ?_
   rintro f _ dn dp bH bI ⟨k,l,m,G,H,I,o,q,s,y,rfl,ax,aJ,aK,J,aL,aM⟩
   refine wc_seq (sr (mv u (lv (rv_len underlying35 u J) (lv (rv_gtr u u) (nq (wcc bH u (fun bJ ay=>?_) (fun bJ ay=>?_)))))))
   ·refine wc_skip (qe_seq (wc_block (sr (mv u ?_))))
    obtain⟨bK,bL,bM⟩:=ob ay
    refine li underlying35 tf9 J bL fun bN bO dq bP bQ=>?_
    obtain⟨rfl,dr⟩:=bP
    have bR:AtK _ bN bO [sv bK]:=bQ
    refine lv (rv_load1 tf9 u ax (bR 0 _ u)) (mv u ?_)
    obtain⟨D,bS,bT⟩:=ob bM
    refine lv (rv_sidx underlying9 u u bS) (av u (nr (lv (r_0 u) (ns ?_))))
    obtain⟨aN,bU,bV⟩:=ob bT
    refine wc_cutg (IW w K (List.flatMap Item.gs [tail (V3 a b c) 78 3]) y [(0,V3 k l m),(1,V3 G H I),(2,V6 q2),(8,pt d),(9,iv8 D),(10,V6 aN)] [obj d [.bool f.2.2.Final,V6 f.2.2.Many,V3 o q s] 78,tail (V3 o q s) 116 2,tail (V3 k l m) 78 3] (rng64 aN)) ?_ ?_
    ·refine wc_block ?_
     obtain⟨dt,bW,bX⟩:=ob bU
     refine qw (fun (aj:Int)=>IW w K (List.flatMap Item.gs [tail (V3 a b c) 78 3]) y [(0,V3 k l m),(1,V3 G H I),(2,V6 q2),(8,pt d),(9,iv8 D),(10,V6 aj)] [obj d [.bool f.2.2.Final,V6 f.2.2.Many,V3 o q s] 78,tail (V3 o q s) 116 2,tail (V3 k l m) 78 3] (rng64 aj)) bW ⟨y,u,ax,kr,d_0⟩ ?_
     rintro aj _ du dv bY bZ ⟨az,rfl,aA,ak,ca⟩
     refine wc_seq (wc_seq ?_)
     obtain⟨cb,cc,cd⟩:=ob bY
     refine wc_cutg (IV w K (List.flatMap Item.gs [tail (V3 a b c) 78 3]) az [(0,V3 k l m),(1,V3 G H I),(2,V6 q2),(8,pt d),(9,iv8 D),(10,V6 aj),(51,.bool cb)] [obj d [.bool f.2.2.Final,V6 f.2.2.Many,V3 o q s] 78,tail (V3 o q s) 116 2,tail (V3 k l m) 78 3]) ?_ ?_
     ·refine wc_region (mv u (mv u (lv (rv_len underlying35 u (J.mono ak)) (lv (rv_lss u u) (mv u (bt cc (fun i aB=>?_) (fun i aB=>?_)))))))
      ·refine lg i (rv_move u) (lg i (rv_move u) ?_)
       obtain⟨ce,cf,cg⟩:=ob aB
       refine wl_indexAddr (t:=tStr) (wg u u i) u underlying35 tf9 u u (J.mono ak) cf fun ch cj dw ck cl=>?_
       obtain⟨rfl,dx⟩:=ck
       have cm:AtK _ ch cj [sv ce]:=cl
       refine lg i (rv_load1 tf9 u aA (cm 0 _ u)) (lg i (rv_move u) ?_)
       obtain⟨dy,cn,cp⟩:=ob cg
       refine lg i (rv_sidx underlying9 u u cn) (lg i (rv_move u) (lg i (rv_beq u u) (lv (rv_pick_t u i u) (wl_nil ?_))))
       cases oi cp
       exact qd ⟨az,u,aA,kr⟩
      iterate 8 refine lu i ?_
      refine lv (p_f u i u) (wl_nil ?_)
      cases oi aB
      exact qd ⟨az,u,aA,kr⟩
     rintro _ dz ⟨aO,rfl,aP,aQ⟩
     refine qe_seq (wcc cd u (fun cq aC=>?_) (fun cq aC=>?_))
     ·refine wc_skip (qe_seq (wc_block (wc_region (mv u (lv (rv_add u u) (av u (nb ?_)))))))
      cases oi aC
      exact qd ⟨_,u,aO,u,aP,(ak.trans aQ),(w64_rng _)⟩
     refine wc_exit (qe_then_exit (qe_then_exit ?_))
     cases oi aC
     cases bZ _ u
     refine qe_block_eq ?_
     cases oi bX
     exact qd ⟨aO,u,aP,(ak.trans aQ),ca⟩
    rintro _ dA ⟨dB,rfl,cr,ac,dC⟩
    refine qr (mv u (mv u (mv u ?_)))
    obtain⟨dD,ct,cu⟩:=ob bV
    refine wl_sl_h (t:=tStr) wn u underlying35 tf9 u u (J.mono ac) ct fun dE dF dG cv=>(mv u (lv (rv_add u u) ?_))
    obtain⟨am,cw,cx⟩:=ob cu
    have aR:=cr.f2
    refine lk co59 (ih aR.e1 (aK.mono ac) cv (w64_rng _) cw) ?_
    rintro dH dI ⟨cy,cz,cA,dJ,rfl,an,cB,cC⟩
    have aS:=(aR.c1 an).t3
    refine mv u (lv (rv_extract u u) (lv (rv_extract u u) (av u (av u (nr (mv u (av u (nr (fl ff78_2 u tf76 m1 aS u ?_)))))))))
    refine mv u (mv u (lv (rv_build (cs:=#[iv8 D,V6 am.2]) sp116 tf116 u (by kernel_rfl)) (lb tGArc (.agg #[iv8 D,V6 am.2]) [iv8 D,V6 am.2] (GArc.mk D am.2) underlying76 tf116 ⟨u,cC⟩ aS fun dK dL dM ao cD cE=>?_)))
    obtain⟨dN,cF,cG⟩:=ob cx
    refine lp underlying76 tf116 (aM.mono ((ac.trans an.le).trans ao)) cD cF cE.f3 fun aD aE aF dO cH aG cI cJ=>(fa ff78_2 u (ls [.bool f.2.2.Final,V6 f.2.2.Many,V3 aD aE aF] (V3 aD aE aF) tf76 cJ.f3 fun dP cK=>(nq (wc_region (mv u (mv u ?_))))))
    obtain⟨dQ,cL,cM⟩:=ob cG
    refine wl_sl_l (t:=tStr) wn u underlying35 tf9 u u (SliceAt.mono (((ac.trans an.le).trans ao).trans aG) J) cL fun cN cO cP cQ=>(av u (nb ?_))
    cases oi cM
    exact qd ⟨_,u,cy,cz,cA,cN,cO,cP,aD,aE,aF,cH,u,cK.s,((((aJ.trans ac).trans an.le).trans ao).trans aG),(cB.mono (ao.trans aG)),cQ,aL,cI⟩
   refine wc_exit (qe_then_exit (qe_then_exit ?_))
   cases oi ay
   cases bI _ u
   refine qe_block_eq ?_
   cases oi bG
   exact qd ⟨k,l,m,o,q,s,y,u,ax,aJ,aK,aL,aM⟩
  rintro _ dR ⟨ag,ah,ai,X,Y,aa,ab,rfl,aT,dS,cR,cS,cT⟩
  refine qr (mv u (lv (rv_loadmS (ds:=[.bool C.2.Final,V6 C.2.Many,V3 X Y aa]) tf78 u m0 aT u u) ?_))
  obtain⟨dT,cU,cV⟩:=ob bE
  have aU:=aT.f2
  refine lk co91 (ok_spec_l4Add F aU.e1 cR cS cT cU) ?_
  rintro dU dV ⟨cW,cX,cY,cZ,rfl,da,db,dc⟩
  have dd:=(aU.c1 da).t3
  refine lv (rv_extract u u) (lv (rv_extract u u) (av u (av u (nq (wc_ret ?_)))))
  cases oi cV
  exact qe_ret (vs:=[_,_]) results59 ⟨u,u,trivial⟩ ⟨cW,cX,cY,cZ,u,dd.s,db,dc⟩

theorem ok_spec_l4Count {q0:List GState}{r:Int}(hS:SH w K [] w K [])(s:SliceAt tGState K A a b q0)(hm:M.spec_l4Count F q0=some r):
  Calls prog 106 #[V3 A a b] w (R_i w K r):=by
 rw [M.spec_l4Count] at hm
 refine ci func106 u ntmps106 (sr (lv (r_0 u) (nr (mv u (lv (rv_len underlying37 u s) ?_)))))
 obtain⟨x5,aC,h7⟩:=ob hm
 refine wl_make (t:=tInt) wn u underlying57 tf3 u u u aC ⟨u,d_0⟩ hS fun k cs9 cz hmx13 hrow11 aE=>?_
 obtain⟨m14,hm15⟩: ∃m,m=x5.length:=⟨_,u⟩
 rw [←hm15] at hmx13
 rw [←hm15]
 refine av u (nsr (lv (r_0 u) (nq ?_)))
 obtain⟨aF,aG,H⟩:=ob h7
 refine wc_cutg (fun E' w'=>∃I cs24 C,aF= .inl I∧E'=[(0,V3 A a b),(3,V3 (some ⟨k,0,none⟩) m14 m14)]∧SH w K [] w' C [obj k cs24 3]∧KLe K C∧RowAt true tInt C cs24 I∧m14=I.length) ?_ ?_
 ·refine wc_block ?_
  obtain⟨cA,aH,ag⟩:=ob aG
  refine qw (fun (c:Int×(List Int)) E' w'=>∃cs36 o,E'=[(0,V3 A a b),(3,V3 (some ⟨k,0,none⟩) m14 m14),(4,V6 c.1)]∧SH w K [] w' o [obj k cs36 3]∧KLe K o∧rng64 c.1∧RowAt true tInt o cs36 c.2∧m14=c.2.length) aH ⟨cs9,K,u,aE,kr,d_0,hrow11,hm15⟩ ?_
  rintro c _ cB cC aI ah ⟨cs36,o,rfl,J,x,cD,hrow37,hm38⟩
  refine wc_seq (sr (mv u (mv u (lv (rv_len underlying37 u (s.mono x)) (lv (rv_lss u u) (nq (wcc aI u (fun aJ U=>?_) (fun aJ U=>?_))))))))
  ·refine wc_skip (qs (wc_block (wc_seq (sr (mv u (mv u ?_))))))
   obtain⟨ai,aK,aL⟩:=ob U
   refine li underlying37 tf78 (s.mono x) aK fun aM aN cE aO aP=>?_
   obtain⟨aQ,aR,aS,rfl,cF,cG⟩:=aO
   have aT:AtK _ aM aN [.bool ai.Final,V6 ai.Many,V3 aQ aR aS]:=aP
   refine fa ff78_0 u (lv (rv_load1 tf4 u J (aT 0 _ u)) (nq ?_))
   obtain⟨aj,aU,aV⟩:=ob aL
   refine wc_cutg (fun E' w'=>∃cs65 y,E'=[(0,V3 A a b),(3,V3 (some ⟨k,0,none⟩) m14 m14),(4,V6 c.1)]∧SH w K [] w' y [obj k cs65 3]∧KLe o y∧RowAt true tInt y cs65 aj∧m14=aj.length) ?_ ?_
   ·refine wcc aU u (fun aW V=>?_) (fun aW V=>?_)
    ·refine wc_region (mv u (mv u ?_))
     obtain⟨aX,W,aY⟩:=ob V
     obtain⟨cH,aZ,ba⟩:=RowAt.at hrow37 W
     obtain⟨rfl,cI⟩:=aZ
     have cJ: ∀(j:Nat) (d:Value),[V6 aX][j]? =some d→cs36[c.1.toNat*tInt.size+j]? =some d:=ba
     refine lv (rv_indexRow (t:=tInt) underlying57 tf3 u u hm38 W) (wl_storeRow (t:=tInt) (v:=V6 1) (e:=(1:Int)) wn tf3 u u ⟨u,(by decide :rng64 1)⟩ J hrow37 W fun cs78 cK hrow80 bb=>?_)
     have hm82:=hm38.trans (List.length_set (i:=c.1.toNat) (a:=(1:Int))).symm
     refine wl_nil ?_
     cases oi aY
     exact qd ⟨cs78,o,u,bb,kr,hrow80,hm82⟩
    refine wc_skip ?_
    cases oi V
    exact qd ⟨cs36,o,u,J,kr,hrow37,hm38⟩
   rintro _ cL ⟨cs65,y,rfl,bc,O,hrow66,hm67⟩
   refine qs (sr (lv (r_0 u) (nq ?_)))
   obtain⟨ak,bd,be⟩:=ob aV
   refine wc_cutg (fun E' w'=>∃cs90 q,E'=[(0,V3 A a b),(3,V3 (some ⟨k,0,none⟩) m14 m14),(4,V6 c.1)]∧SH w K [] w' q [obj k cs90 3]∧KLe y q∧RowAt true tInt q cs90 ak∧m14=ak.length) ?_ ?_
   ·refine wc_block ?_
    obtain⟨cM,bf,bg⟩:=ob bd
    refine qw (fun (D:Int×(List Int)) E' w'=>∃cs102 B,E'=[(0,V3 A a b),(3,V3 (some ⟨k,0,none⟩) m14 m14),(4,V6 c.1),(5,V6 D.1)]∧SH w K [] w' B [obj k cs102 3]∧KLe y B∧rng64 D.1∧RowAt true tInt B cs102 D.2∧m14=D.2.length) bf ⟨cs65,y,u,bc,kr,d_0,hrow66,hm67⟩ ?_
    rintro D _ cN cO bh bi ⟨cs102,B,rfl,X,R,cP,hrow103,hm104⟩
    refine wc_seq (sr (mv u (mv u (mv u ?_))))
    obtain⟨al,bj,bk⟩:=ob bh
    refine li underlying37 tf78 (s.mono ((x.trans O).trans R)) bj fun bl bm cQ bn bo=>?_
    obtain⟨bp,bq,br,rfl,cR,bs⟩:=bn
    have bu:AtK _ bl bm [.bool al.Final,V6 al.Many,V3 bp bq br]:=bo
    refine fa ff78_2 u (lv (rv_load1 tf76 u X (bu 2 _ u)) (lv (rv_len underlying76 u bs) (lv (rv_lss u u) (nq (wcc bk u (fun bv Y=>?_) (fun bv Y=>?_))))))
    ·refine wc_skip (qs (wc_block ?_))
     have aa:=X.drew
     refine wh1 (fun w'=>Holds B w') (fun w'=>HasObj k cs102 w') 20 [(5,18),(5,19),(5,20),(17,18),(17,19),(17,20),(18,19),(18,20),(19,20)] mixed (aa.hasK kr) (fun _=>aa.hasObj (.head _)) (gt (rv_move u) (gt (rv_move u) (gt (rv_move u) (gt (rv_move u) ?_))))
     obtain⟨S,am,bx⟩:=ob Y
     obtain⟨cS,bz,bA⟩:=RowAt.at hrow103 am
     obtain⟨rfl,cT⟩:=bz
     have bB: ∀(j:Nat) (d:Value),[V6 S][j]? =some d→cs102[c.1.toNat*tInt.size+j]? =some d:=bA
     refine gt (rv_indexRow (t:=tInt) underlying57 tf3 u u hm104 am) (gf (fun _ h=>(rh_loadR1 tf3 u u (bB 0 _ u) h)) (gt (rv_move u) (gt (rv_move u) (gt (rv_move u) ?_))))
     obtain⟨an,bC,bD⟩:=ob bx
     refine gi underlying37 tf78 (s.mono ((x.trans O).trans R)) bC fun bE bF cU bG bH=>?_
     obtain⟨bI,bJ,bK,rfl,cV,bL⟩:=bG
     have bM:AtK _ bE bF [.bool an.Final,V6 an.Many,V3 bI bJ bK]:=bH
     refine gt (rv_fieldAddr ff78_2 u) (gh (fun _ h=>rh_load1 tf76 u (bM 2 _ u) h) (gt (rv_move u) ?_))
     obtain⟨ab,bN,bO⟩:=ob bD
     refine gi underlying76 tf116 bL bN fun bP bQ cW bR bS=>?_
     obtain⟨rfl,cX⟩:=bR
     have bT:AtK _ bP bQ [iv8 ab.Byte,V6 ab.To]:=bS
     refine gt (rv_fieldAddr ff116_1 u) (gh (fun _ h=>rh_load1 tf3 u (bT 1 _ u) h) ?_)
     obtain⟨T,ao,bU⟩:=ob bO
     obtain⟨cY,bV,bW⟩:=RowAt.at hrow103 ao
     obtain⟨rfl,cZ⟩:=bV
     have bX: ∀(j:Nat) (d:Value),[V6 T][j]? =some d→cs102[ab.To.toNat*tInt.size+j]? =some d:=bW
     refine gt (rv_indexRow (t:=tInt) underlying57 tf3 u u hm104 ao) (gf (fun _ h=>(rh_loadR1 tf3 u u (bX 0 _ u) h)) (gt (rv_add u u) ?_))
     obtain⟨bY,ac,bZ⟩:=ob bU
     obtain⟨da,ca,cb⟩:=RowAt.at hrow103 ac
     obtain⟨rfl,db⟩:=ca
     have dc: ∀(j:Nat) (d:Value),[V6 bY][j]? =some d→cs102[c.1.toNat*tInt.size+j]? =some d:=cb
     refine gt (rv_indexRow (t:=tInt) underlying57 tf3 u u hm104 ac) (gn (wl_storeRow (t:=tInt) (v:=V6 (w64 (S+T))) (e:=(w64 (S+T))) wn tf3 u u ⟨u,(w64_rng _)⟩ aa hrow103 ac fun cs174 dd hrow176 ap=>?_))
     have hm178:=hm104.trans (List.length_set (i:=c.1.toNat) (a:=(w64 (S+T)))).symm
     refine wl_nil (qh (ap.hasK kr) (fun h=>nomatch h) (gd' (qe_block (qe_seq (wc_region (mv u (lv (rv_add u u) (av u (wl_nil ?_)))))))))
     cases oi bZ
     exact qd ⟨_,u,cs174,B,u,ap,R,(w64_rng _),hrow176,hm178⟩
    refine wc_exit (qe_then_exit (qe_then_exit ?_))
    cases oi Y
    cases bi _ u
    refine qe_block_eq ?_
    cases oi bg
    exact qd ⟨cs102,B,u,X,R,hrow103,hm104⟩
   rintro _ de ⟨cs90,q,rfl,G,aq,hrow91,hm92⟩
   refine qs ?_
   obtain⟨cc,cd,ce⟩:=ob be
   refine wc_cutg (IV w K [] q [(0,V3 A a b),(3,V3 (some ⟨k,0,none⟩) m14 m14),(4,V6 c.1),(69,.bool cc)] [obj k cs90 3]) ?_ ?_
   ·refine wc_region (mv u (mv u ?_))
    obtain⟨cf,ar,cg⟩:=ob cd
    obtain⟨df,ch,cj⟩:=RowAt.at hrow91 ar
    obtain⟨rfl,dg⟩:=ch
    have ck: ∀(j:Nat) (d:Value),[V6 cf][j]? =some d→cs90[c.1.toNat*tInt.size+j]? =some d:=cj
    refine lv (rv_indexRow (t:=tInt) underlying57 tf3 u u hm92 ar) (lv (rh_loadR1 tf3 u u (ck 0 _ u) (G.hasObj (.head _))) (lv (rv_gtr u u) (mv u (bt cg (fun f ad=>?_) (fun f ad=>?_)))))
    ·iterate 6 refine lu f ?_
     refine wl_un (uu u u) u (wl_un (uu u u) u (wl_un (uu u u) u (lu f (lv (p_t u f u) (wl_nil ?_)))))
     cases oi ad
     exact qd ⟨q,u,G,kr⟩
    refine lg f (rv_move u) (lg f (rv_move u) ?_)
    obtain⟨cl,au,cm⟩:=ob ad
    obtain⟨dh,cn,cp⟩:=RowAt.at hrow91 au
    obtain⟨rfl,di⟩:=cn
    have cq: ∀(j:Nat) (d:Value),[V6 cl][j]? =some d→cs90[c.1.toNat*tInt.size+j]? =some d:=cp
    refine lg f (rv_indexRow (t:=tInt) underlying57 tf3 u u hm92 au) (lg f (rh_loadR1 tf3 u u (cq 0 _ u) (G.hasObj (.head _))) (lg f (rv_eql u u) (lg f (rv_move u) (bt cm (fun l ae=>?_) (fun l ae=>?_)))))
    ·refine lg l (rv_move u) (lg l (rv_len underlying37 u (s.mono ((x.trans O).trans aq))) (lg l (rv_gtr u u) (lg f (rv_pick_t u l u) (lv (rv_pick_f u f u) (wl_nil ?_)))))
     cases oi ae
     exact qd ⟨q,u,G,kr⟩
    refine lu l (lu l (lu l (lg f (p_f u l u) (lv (rv_pick_f u f u) (wl_nil ?_)))))
    cases oi ae
    exact qd ⟨q,u,G,kr⟩
   rintro _ dj ⟨aw,rfl,ax,ay⟩
   refine qe_seq (wcc ce u (fun cr af=>?_) (fun cr af=>?_))
   ·refine sr (lv (rv_assign (v:=V6 41) u) (nq (wc_ret (qe_block_ret (qe_then_ret (qe_then_ret ?_))))))
    cases oi af
    cases ah _ u
    refine qe_block_ret (qe_then_ret ?_)
    cases oi ag
    refine qe_then_ret ?_
    cases oi H
    exact ey results106 ⟨aw,u,ax.s,(by decide :rng64 41)⟩
   refine wc_skip (qe_block (qe_seq (wc_region (mv u (lv (rv_add u u) (av u (wl_nil ?_)))))))
   cases oi af
   exact qd ⟨_,u,cs90,aw,u,ax,(((x.trans O).trans aq).trans ay),(w64_rng _),(RowAt.mono ay hrow91),hm92⟩
  refine wc_exit (qe_then_exit (qe_then_exit ?_))
  cases oi U
  cases ah _ u
  refine qe_block_eq ?_
  cases oi ag
  exact qd ⟨_,cs36,o,u,u,J,x,hrow37,hm38⟩
 rintro _ dk ⟨I,cs24,C,rfl,rfl,az,cs,hrow25,hm26⟩
 have H:=elim_l H
 refine qr (mv u (mv u (lv (rv_len underlying37 u (s.mono cs)) (lv (rv_sub u u) ?_))))
 obtain⟨ct,aA,cu⟩:=ob H
 obtain⟨dl,cv,cw⟩:=RowAt.at hrow25 aA
 obtain⟨rfl,cx⟩:=cv
 have cy: ∀(j:Nat) (d:Value),[V6 ct][j]? =some d→cs24[(w64 ((q0.length:Int)-(1:Int))).toNat*tInt.size+j]? =some d:=cw
 refine lv (rv_indexRow (t:=tInt) underlying57 tf3 u u hm26 aA) (lv (rh_loadR1 tf3 u u (cy 0 _ u) (az.hasObj (.head _))) (av u (nq (wc_ret ?_))))
 cases oi cu
 exact ey results106 ⟨C,u,az.s,cx⟩

theorem ok_spec_l4Shape {q0:List GState}{r:Bool}(hS:SH w K [] w K [])(f:SliceAt tGState K A a b q0)(hm:M.spec_l4Shape F q0=some r):
  Calls prog 82 #[V3 A a b] w (R_b w K r):=by
 rw [M.spec_l4Shape] at hm
 refine ci func82 u ntmps82 (sr (lv (r_f u) (nsr (lv (r_0 u) (nq ?_)))))
 obtain⟨o5,h6,m⟩:=ob hm
 refine wc_cutg (IE o5 w K [] K [(0,V3 A a b)] []) ?_ ?_
 ·refine wc_block ?_
  obtain⟨bT,an,y⟩:=ob h6
  refine qw (fun (k:Int)=>IW w K [] K [(0,V3 A a b),(3,V6 k)] [] (rng64 k)) an ⟨K,u,hS,kr,d_0⟩ ?_
  rintro k _ bU bV ao B ⟨o,rfl,V,i,bW⟩
  refine wc_seq (sr (mv u (mv u (lv (rv_len underlying37 u (f.mono i)) (lv (rv_lss u u) (nq (wcc ao u (fun ap C=>?_) (fun ap C=>?_))))))))
  ·refine wc_skip (qs (wc_block (wc_seq (sr (lv (r_0 u) (nq ?_))))))
   obtain⟨aq,ar,q⟩:=ob C
   refine wc_cutg (IE aq w K [] o [(0,V3 A a b),(3,V6 k)] []) ?_ ?_
   ·refine wc_block ?_
    obtain⟨bX,au,W⟩:=ob ar
    refine qw (fun (D:Int)=>IW w K [] o [(0,V3 A a b),(3,V6 k),(4,V6 D)] [] (rng64 D)) au ⟨o,u,V,kr,d_0⟩ ?_
    rintro D _ bY bZ aw X ⟨ax,rfl,l,s,ca⟩
    refine wc_seq (sr (mv u (mv u (mv u ?_))))
    obtain⟨Y,ay,az⟩:=ob aw
    refine li underlying37 tf78 (f.mono (i.trans s)) ay fun aA aB cb aC aD=>?_
    obtain⟨aE,aF,aG,rfl,cc,aH⟩:=aC
    have aI:AtK _ aA aB [.bool Y.Final,V6 Y.Many,V3 aE aF aG]:=aD
    refine fa ff78_2 u (lv (rv_load1 tf76 u l (aI 2 _ u)) (lv (rv_len underlying76 u aH) (lv (rv_lss u u) (nq (wcc az u (fun aJ G=>?_) (fun aJ G=>?_))))))
    ·refine wc_skip (qs (wc_block (sr (mv u (mv u ?_)))))
     obtain⟨aa,aK,aL⟩:=ob G
     refine li underlying37 tf78 (f.mono (i.trans s)) aK fun aM aN cd aO aP=>?_
     obtain⟨aQ,aR,aS,rfl,ce,aT⟩:=aO
     have aU:AtK _ aM aN [.bool aa.Final,V6 aa.Many,V3 aQ aR aS]:=aP
     refine fa ff78_2 u (lv (rv_load1 tf76 u l (aU 2 _ u)) (mv u ?_))
     obtain⟨ab,aV,aW⟩:=ob aL
     refine li underlying76 tf116 aT aV fun aX aY cf aZ ba=>?_
     obtain⟨rfl,bb⟩:=aZ
     have bc:AtK _ aX aY [iv8 ab.Byte,V6 ab.To]:=ba
     refine fa ff116_1 u (lv (rv_load1 tf3 u l (bc 1 _ u)) (mv u (lv (rv_sub u u) ?_)))
     obtain⟨cg,bd,be⟩:=ob aW
     refine lk co38 (ok_spec_l1In F l.enter0 bb d_0 (w64_rng _) bd) ?_
     rintro ch cj ⟨ac,rfl,ad⟩
     have ae:=(l.c0 ad).t0
     refine lv (rv_not u) (nq (wcc be u (fun bf H=>?_) (fun bf H=>?_)))
     ·refine sr (lv (r_f u) (nq (wc_ret (qe_block_ret (qe_then_ret (qe_then_ret ?_))))))
      cases oi H
      cases X _ u
      refine qe_block_ret (qe_then_ret ?_)
      cases oi W
      refine qe_then_ret (qe_block_ret (qe_then_ret (qe_then_ret ?_)))
      cases oi q
      cases B _ u
      refine qe_block_ret (qe_then_ret ?_)
      cases oi y
      refine qe_then_ret ?_
      cases oi m
      exact ey results82 ⟨ac,u,ae⟩
     refine wc_skip (qe_block (qe_seq (wc_region (mv u (lv (rv_add u u) (av u (wl_nil ?_)))))))
     cases oi H
     exact qd ⟨_,u,ac,u,ae,(s.trans ad.le),(w64_rng _)⟩
    refine wc_exit (qe_then_exit (qe_then_exit ?_))
    cases oi G
    cases X _ u
    refine qe_block_eq ?_
    cases oi W
    exact qd ⟨_,ax,u,u,l,s⟩
   rintro _ ck ⟨cl,bg,rfl,rfl,I,J⟩
   have q:=elim_l q
   refine qs ?_
   obtain⟨bh,bi,bj⟩:=ob q
   refine wc_cutg (IV w K [] bg [(0,V3 A a b),(3,V6 k),(49,.bool bh)] []) ?_ ?_
   ·refine wc_region (mv u (mv u ?_))
    obtain⟨af,bk,bl⟩:=ob bi
    refine li underlying37 tf78 (f.mono (i.trans J)) bk fun bm bn cm bo bp=>?_
    obtain⟨bq,br,bs,rfl,bu,cn⟩:=bo
    have bv:AtK _ bm bn [.bool af.Final,V6 af.Many,V3 bq br bs]:=bp
    refine fa ff78_1 u (lv (rv_load1 tf3 u I (bv 1 _ u)) ?_)
    obtain⟨cp,bx,bz⟩:=ob bl
    refine lk co38 (ok_spec_l1In F I.enter0 bu d_0 (by decide :rng64 40) bx) ?_
    rintro cq cr ⟨ag,rfl,x⟩
    have O:=(I.c0 x).t0
    refine lv (rv_not u) (mv u (bt bz (fun c R=>?_) (fun c R=>?_)))
    ·iterate 7 refine lu c ?_
     refine lv (p_t u c u) (wl_nil ?_)
     cases oi R
     exact qd ⟨ag,u,O,x.le⟩
    refine lg c (rv_move u) (lg c (rv_move u) ?_)
    obtain⟨ah,bA,bB⟩:=ob R
    refine wl_indexAddr (t:=tGState) (wg u u c) u underlying37 tf78 u u (f.mono ((i.trans J).trans x.le)) bA fun bC bD cs bE bF=>?_
    obtain⟨bG,bH,bI,rfl,ct,bJ⟩:=bE
    have bK:AtK _ bC bD [.bool ah.Final,V6 ah.Many,V3 bG bH bI]:=bF
    refine lg c (rv_fieldAddr ff78_2 u) (lg c (rv_load1 tf76 u O (bK 2 _ u)) (lg c (rv_len underlying76 u bJ) (lg c (rv_gtr u u) (lv (rv_pick_f u c u) (wl_nil ?_)))))
    cases oi bB
    exact qd ⟨ag,u,O,x.le⟩
   rintro _ cu ⟨ai,rfl,aj,bL⟩
   refine qe_seq (wcc bj u (fun bM S=>?_) (fun bM S=>?_))
   ·refine sr (lv (r_f u) (nq (wc_ret (qe_block_ret (qe_then_ret (qe_then_ret ?_))))))
    cases oi S
    cases B _ u
    refine qe_block_ret (qe_then_ret ?_)
    cases oi y
    refine qe_then_ret ?_
    cases oi m
    exact ey results82 ⟨ai,u,aj⟩
   refine wc_skip (qe_block (qe_seq (wc_region (mv u (lv (rv_add u u) (av u (wl_nil ?_)))))))
   cases oi S
   exact qd ⟨_,u,ai,u,aj,((i.trans J).trans bL),(w64_rng _)⟩
  refine wc_exit (qe_then_exit (qe_then_exit ?_))
  cases oi C
  cases B _ u
  refine qe_block_eq ?_
  cases oi y
  exact qd ⟨_,o,u,u,V,i⟩
 rintro _ cv ⟨s8,K9,rfl,rfl,T,ak⟩
 have m:=elim_l m
 refine qr (mv u (lv (rv_len underlying37 u (f.mono ak)) (lv (rv_gtr u u) (mv u (bt m (fun d U=>?_) (fun d U=>?_))))))
 ·refine lg d (rv_move u) ?_
  obtain⟨cx,bO,bP⟩:=ob U
  refine wl_call (wg u u d) u (rt_call (vs:=[V3 A a b]) co106 u) (ok_spec_l4Count F T.enter0 (f.mono ak) bO) ?_
  rintro cy cz ⟨bQ,rfl,bR,cA⟩
  refine⟨_,u,?_⟩
  have bS:=(T.c0 bR).t0
  refine lg d (rv_leq u u) (lv (rv_pick_t u d u) (av u (nq (wc_ret ?_))))
  cases oi bP
  exact ey results82 ⟨bQ,u,bS⟩
 refine lu d (lu d (lu d (lv (p_f u d u) (av u (nq (wc_ret ?_))))))
 cases oi U
 exact ey results82 ⟨K9,u,T⟩

theorem ok_spec_l4Ok {q0:List GState}{r:Bool}(hS:SH w K [] w K [])(c:SliceAt tGState K A a b q0)(hm:M.spec_l4Ok F q0=some r):
  Calls prog 49 #[V3 A a b] w (R_b w K r):=by
 rw [M.spec_l4Ok] at hm
 refine ci func49 u ntmps49 (sr (lv (r_f u) (nsr (mv u ?_))))
 obtain⟨r5,ab,h7⟩:=ob hm
 refine lk co82 (ok_spec_l4Shape F hS.enter0 c ab) ?_
 rintro bh w9 ⟨K8,rfl,d⟩
 have q:=(hS.c0 d).t0
 refine lv (rv_not u) (nq (wcc h7 u (fun ae s=>?_) (fun ae s=>?_)))
 ·refine sr (lv (r_f u) (nq (rr ?_)))
  cases oi s
  exact ey results49 ⟨K8,u,q⟩
 refine wc_skip (qr (mv u (mv u (lv (rv_len underlying37 u (c.mono d.le)) (lv (rv_sub u u) ?_)))))
 obtain⟨bj,af,ag⟩:=ob s
 refine lk co51 (ok_spec_l4All F q.enter0 (c.mono d.le) (w64_rng _) (by decide :([]:Str).length≤maxLen) af) ?_
 rintro bk bl ⟨bm,bn,bo,bp,rfl,k,G⟩
 have H:=(q.c0 k).t1
 refine av u (nsr (mv u ?_))
 obtain⟨bq,ah,ai⟩:=ob ag
 refine lk co58 (ok_spec_l4Sorted F H.enter0 G ah) ?_
 rintro br bs ⟨aj,rfl,f⟩
 have I:=(H.c0 f).t1
 refine lv (rv_not u) (nq (wcc ai u (fun ak x=>?_) (fun ak x=>?_)))
 ·refine sr (lv (r_f u) (nq (rr ?_)))
  cases oi x
  exact ey results49 ⟨aj,u,I.s⟩
 refine wc_skip (qr (mv u ?_))
 obtain⟨bu,al,am⟩:=ob x
 have J:=I.nil 78 3
 refine lk co59 (ok_spec_l4Build F J.e1 (SliceAt.nil _ _) (G.mono f.le) d_0 al) ?_
 rintro bv bx ⟨an,ao,ap,l,rfl,m,O,bz⟩
 have R:=(J.c1 m).t2
 refine mv u (lv (rv_extract u u) (lv (rv_extract u u) (av u (av u (nsr (mv u (lv (rv_len underlying37 u O) (mv u (lv (rv_len underlying37 u (SliceAt.mono (((d.le.trans k.le).trans f.le).trans m.le) c)) ?_)))))))))
 refine lv (rv_neq u u) (nq (wcc am u (fun aq y=>?_) (fun aq y=>?_)))
 ·refine sr (lv (r_f u) (nq (rr ?_)))
  cases oi y
  exact ey results49 ⟨l,u,R.s⟩
 refine wc_skip (qs (sr (lv (r_0 u) (nq ?_))))
 obtain⟨ar,au,o⟩:=ob y
 refine wc_cutg (IE ar w K [] l [] []) ?_ ?_
 ·refine wc_block ?_
  obtain⟨bA,aw,S⟩:=ob au
  have ax:=R.sb (sd (sd sz))
  refine qw (fun (B:Int)=>IW w K [] l [(0,V3 A a b),(4,V3 an ao ap),(6,V6 B)] [] (rng64 B)) aw ⟨l,u,ax,kr,d_0⟩ ?_
  rintro B _ bB bC ay T ⟨az,rfl,U,i,bD⟩
  refine wc_seq (sr (mv u (mv u (lv (rv_len underlying37 u (SliceAt.mono ((((d.le.trans k.le).trans f.le).trans m.le).trans i) c)) (lv (rv_lss u u) (nq (wcc ay u (fun aA C=>?_) (fun aA C=>?_))))))))
  ·refine wc_skip (qs (wc_block (wc_seq (wc_quiet mixed (by kernel_rfl) U (km u (km u ?_))))))
   obtain⟨V,aB,aC⟩:=ob C
   refine ki underlying37 tf78 (O.mono i) aB fun aD aE bE aF aG=>?_
   obtain⟨aH,aI,aJ,rfl,aK,aL⟩:=aF
   have aM:AtK _ aD aE [.bool V.Final,V6 V.Many,V3 aH aI aJ]:=aG
   refine kh (rq_loadS tf78 u aM u) (km u (km u ?_))
   obtain⟨W,aN,aO⟩:=ob aC
   refine ki underlying37 tf78 (SliceAt.mono ((((d.le.trans k.le).trans f.le).trans m.le).trans i) c) aN fun aP aQ bF aR aS=>?_
   obtain⟨aT,aU,aV,rfl,aW,aX⟩:=aR
   have aY:AtK _ aP aQ [.bool W.Final,V6 W.Many,V3 aT aU aV]:=aS
   refine kh (rq_loadS tf78 u aY u) ?_
   obtain⟨bG,aZ,ba⟩:=ob aO
   refine kc co83 (fun _ _ bb X=>(ok_spec_l4Same F) bb.enter0 aK (aL.mono X) aW (aX.mono X) aZ) (kv (rv_not u) (wq_nil ?_))
   rintro bH ⟨Y,aa,bc⟩
   refine qe_seq (wcc ba u (fun bd D=>?_) (fun bd D=>?_))
   ·refine sr (lv (r_f u) (nq (wc_ret (qe_block_ret (qe_then_ret (qe_then_ret ?_))))))
    cases oi D
    cases T _ u
    refine qe_block_ret (qe_then_ret ?_)
    cases oi S
    refine qe_then_ret ?_
    cases oi o
    exact ey results49 ⟨Y,u,aa⟩
   refine wc_skip (qe_block (qe_seq (wc_region (mv u (lv (rv_add u u) (av u (wl_nil ?_)))))))
   cases oi D
   exact qd ⟨_,u,Y,u,aa,(i.trans bc),(w64_rng _)⟩
  refine wc_exit (qe_then_exit (qe_then_exit ?_))
  cases oi C
  cases T _ u
  refine qe_block_eq ?_
  cases oi S
  exact qe_mid' ⟨_,az,u,u,U,i⟩ trivial
 rintro _ bI ⟨bJ,be,rfl,rfl,bf,bK⟩
 have o:=elim_l o
 refine qr (lv (r_t u) (nq (wc_ret ?_)))
 cases oi o
 exact ey results49 ⟨be,u,bf⟩

theorem ok_spec_l4Go {q0:List GState}{q1:Str}{r:Int×Int}(hS:SH w K [] w K [])(q:SliceAt tGState K A a b q0)(cj:q1.length≤maxLen)(hm:M.spec_l4Go F q0 q1=some r):
  Calls prog 50 #[V3 A a b,sv q1] w fun e w'=>∃K',e= .returned (.tuple #[V6 r.1,V6 r.2])∧SH w K [] w' K' []∧rng64 r.1∧rng64 r.2:=by
 rw [M.spec_l4Go] at hm
 refine ci func50 u ntmps50 (sr (lv (r_0 u) (lv (r_0 u) (nr (mv u (lv (rv_len underlying37 u q) (lv (rv_sub u u) (av u (nr ?_)))))))))
 refine lv (r_0 u) (nsr (lv (r_0 u) (nq ?_)))
 obtain⟨o6,h7,s⟩:=ob hm
 refine wc_cutg (fun E' w'=>∃k x,o6= .inl k∧E'=[(6,V6 k.1),(7,V6 k.2)]∧SH w K [] w' x []∧KLe K x∧rng64 k.1∧rng64 k.2) ?_ ?_
 ·refine wc_block ?_
  obtain⟨ck,au,ae⟩:=ob h7
  refine qw (fun (c:Int×Int×Int)=>IW w K [] K [(0,V3 A a b),(1,sv q1),(6,V6 c.1),(7,V6 c.2.1),(8,V6 c.2.2)] [] (rng64 c.1∧rng64 c.2.1∧rng64 c.2.2)) au ⟨K,u,hS,kr,(w64_rng _),d_0,d_0⟩ ?_
  rintro c _ cl cm aw af ⟨y,rfl,B,l,ax,ag,cn⟩
  refine wc_seq (sr (mv u (mv u (lv (rv_slen underlying9 u) (lv (rv_lss u u) (nq (wcc aw u (fun ay J=>?_) (fun ay J=>?_))))))))
  ·refine wc_skip (qs (wc_block (sr (lv (rv_assign (v:=V6 (-1)) u) (nsr (mv u (mv u ?_)))))))
   obtain⟨ah,az,aA⟩:=ob J
   refine li underlying37 tf78 (q.mono l) az fun aB aC cp aD aE=>?_
   obtain⟨aF,aG,aH,rfl,cq,cr⟩:=aD
   have aI:AtK _ aB aC [.bool ah.Final,V6 ah.Many,V3 aF aG aH]:=aE
   refine fa ff78_0 u (lv (rv_load1 tf4 u B (aI 0 _ u)) (nq ?_))
   obtain⟨ai,aJ,aK⟩:=ob aA
   refine wc_cutg (IW w K [] y [(0,V3 A a b),(1,sv q1),(6,V6 c.1),(7,V6 ai),(8,V6 c.2.2),(9,V6 (-1))] [] (rng64 ai)) ?_ ?_
   ·refine wcc aJ u (fun aL O=>?_) (fun aL O=>?_)
    ·refine wc_region (mv u (lv (rv_add u u) (av u (wl_nil ?_))))
     cases oi O
     exact qd ⟨y,u,B,kr,(w64_rng _)⟩
    refine wc_skip ?_
    cases oi O
    exact qd ⟨y,u,B,kr,ag⟩
   rintro _ cs ⟨R,rfl,aM,C,aN⟩
   refine qs (sr (lv (r_0 u) (nq ?_)))
   obtain⟨D,aO,aP⟩:=ob aK
   refine wc_cutg (IW w K [] R [(0,V3 A a b),(1,sv q1),(7,V6 D.1),(8,V6 c.2.2),(9,V6 D.2)] [] (rng64 D.1∧rng64 D.2)) ?_ ?_
   ·refine wc_block ?_
    obtain⟨ct,aQ,aR⟩:=ob aO
    refine qw (fun (d:Int×Int×Int)=>IW w K [] R [(0,V3 A a b),(1,sv q1),(6,V6 c.1),(7,V6 d.1),(8,V6 c.2.2),(9,V6 d.2.1),(10,V6 d.2.2)] [] (rng64 d.1∧rng64 d.2.1∧rng64 d.2.2)) aQ ⟨R,u,aM,kr,aN,(by decide :rng64 (-1)),d_0⟩ ?_
    rintro d _ cu cv aS aT ⟨S,rfl,T,f,U,V,cw⟩
    refine wc_seq (wc_seq ?_)
    obtain⟨aU,aV,aW⟩:=ob aS
    refine wc_cutg (IV w K [] S [(0,V3 A a b),(1,sv q1),(6,V6 c.1),(7,V6 d.1),(8,V6 c.2.2),(9,V6 d.2.1),(10,V6 d.2.2),(39,.bool aU)] []) ?_ ?_
    ·refine wc_region (mv u (mv u (mv u ?_)))
     obtain⟨aj,aX,aY⟩:=ob aV
     refine li underlying37 tf78 (q.mono ((l.trans C).trans f)) aX fun aZ ba cx bb bc=>?_
     obtain⟨bd,be,bf,rfl,cy,bg⟩:=bb
     have bh:AtK _ aZ ba [.bool aj.Final,V6 aj.Many,V3 bd be bf]:=bc
     refine fa ff78_2 u (lv (rv_load1 tf76 u T (bh 2 _ u)) (lv (rv_len underlying76 u bg) (lv (rv_lss u u) (mv u (bt aY (fun i W=>?_) (fun i W=>?_))))))
     ·refine lg i (rv_move u) (lg i (rv_lss u u) (lv (rv_pick_t u i u) (wl_nil ?_)))
      cases oi W
      exact qd ⟨S,u,T,kr⟩
     refine lu i (lu i (lv (p_f u i u) (wl_nil ?_)))
     cases oi W
     exact qd ⟨S,u,T,kr⟩
    rintro _ cz ⟨bi,rfl,G,m⟩
    refine qe_seq (wcc aW u (fun bj X=>?_) (fun bj X=>?_))
    ·refine wc_skip (qs (wc_block (sr (mv u (mv u ?_)))))
     obtain⟨ak,bk,bl⟩:=ob X
     refine li underlying37 tf78 (SliceAt.mono (((l.trans C).trans f).trans m) q) bk fun bm bn cA bo bp=>?_
     obtain⟨bq,br,bs,rfl,cB,bu⟩:=bo
     have bv:AtK _ bm bn [.bool ak.Final,V6 ak.Many,V3 bq br bs]:=bp
     refine fa ff78_2 u (lv (rv_load1 tf76 u G (bv 2 _ u)) (mv u ?_))
     obtain⟨o,bx,bz⟩:=ob bl
     refine li underlying76 tf116 bu bx fun bA bB cC bC bD=>?_
     obtain⟨rfl,bE⟩:=bC
     have bF:AtK _ bA bB [iv8 o.Byte,V6 o.To]:=bD
     refine lv (rv_loadS tf116 u G bF u) (al tf116 G fun bG cD bH=>?_)
     have bI:SH _ _ _ _ _ [obj bG [iv8 0,V6 0] 116]:=bH
     refine wl_store (cs':=[iv8 o.Byte,V6 o.To]) (v:=.agg #[iv8 o.Byte,V6 o.To]) wn tf116 u u u (by simp [Value.cells,Value.oneCell',iv8]) bI u u fun cE bJ=>(ns (wc_quiet mixed (by kernel_rfl) bJ (kv (rv_fieldAddr ff116_0 u) (kh (rq_loadm1 tf5 u m0 u) (km u (km u ?_))))))
     obtain⟨cF,bK,bL⟩:=ob bz
     refine kv (rv_sidx underlying9 u u bK) (kv (rv_beq u u) (wq_nil ?_))
     rintro cG ⟨bM,Y,H⟩
     refine qe_seq (wcc bL u (fun bN aa=>?_) (fun bN aa=>?_))
     ·refine wc_region (fl ff116_1 u tf3 m0 Y u (av u (nb (qe_seq (wc_region (mv u (lv (rv_add u u) (av u (wl_nil ?_)))))))))
      cases oi aa
      exact qd ⟨_,u,bM,u,Y.s,((f.trans m).trans H),U,bE,(w64_rng _)⟩
     refine wc_seq (wc_quiet mixed (by kernel_rfl) Y (kv (rv_fieldAddr ff116_0 u) (kh (rq_loadm1 tf5 u m0 u) (km u (km u ?_)))))
     obtain⟨cH,bO,bP⟩:=ob aa
     refine kv (rv_sidx underlying9 u u bO) (kv (rv_bl u u) (wq_nil ?_))
     rintro cI ⟨am,I,ab⟩
     refine qe_seq (wcc bP u (fun bQ ac=>?_) (fun bQ ac=>?_))
     ·refine wc_region (mv u (mv u (fl ff116_1 u tf3 m0 I u ?_)))
      obtain⟨an,bR,bS⟩:=ob ac
      refine li underlying37 tf78 (SliceAt.mono (((((l.trans C).trans f).trans m).trans H).trans ab) q) bR fun bT bU cJ bV bW=>?_
      obtain⟨bX,bY,bZ,rfl,cK,cL⟩:=bV
      have ca:AtK _ bT bU [.bool an.Final,V6 an.Many,V3 bX bY bZ]:=bW
      refine fa ff78_1 u (lv (rv_load1 tf3 u I (ca 1 _ u)) (lv (rv_add u u) (av u (nb (qe_seq (wc_region (mv u (lv (rv_add u u) (av u ?_)))))))))
      refine wl_nil ?_
      cases oi bS
      exact qd ⟨_,u,am,u,I.s,(((f.trans m).trans H).trans ab),(w64_rng _),V,(w64_rng _)⟩
     refine wc_skip (qe_block (qe_seq (wc_region (mv u (lv (rv_add u u) (av u (wl_nil ?_)))))))
     cases oi ac
     exact qd ⟨_,u,am,u,I.s,(((f.trans m).trans H).trans ab),U,V,(w64_rng _)⟩
    refine wc_exit (qe_then_exit (qe_then_exit ?_))
    cases oi X
    cases aT _ u
    refine qe_block_eq ?_
    cases oi aR
    exact qd ⟨bi,u,G,(f.trans m),U,V⟩
   rintro _ cM ⟨ao,rfl,ap,cb,cc,cd⟩
   refine qs (sr (mv u (lv (rv_lss u u) (nq (wcc aP u (fun ce ad=>?_) (fun ce ad=>?_))))))
   ·refine sr (lv (rv_assign (v:=V6 (-1)) u) (lv (r_0 u) (nq (rr (qe_block_ret (qe_then_ret (qe_then_ret ?_)))))))
    cases oi ad
    cases af _ u
    refine qe_block_ret (qe_then_ret ?_)
    cases oi ae
    refine qe_then_ret ?_
    cases oi s
    exact qe_ret (vs:=[_,_]) results50 ⟨u,u,trivial⟩ ⟨ao,u,ap,(by decide :rng64 (-1)),d_0⟩
   refine wc_skip (qe_seq (wc_region (mv u (av u (nb (qe_seq (wc_region (mv u (lv (rv_add u u) ?_)))))))))
   refine av u (wl_nil ?_)
   cases oi ad
   exact qd ⟨_,u,ao,u,ap,((l.trans C).trans cb),cd,cc,(w64_rng _)⟩
  refine wc_exit (qe_then_exit (qe_then_exit ?_))
  cases oi J
  cases af _ u
  refine qe_block_eq ?_
  cases oi ae
  exact qd ⟨_,y,u,u,B,l,ax,ag⟩
 rintro _ cN ⟨k,x,rfl,rfl,cf,cO,cg,ch⟩
 have s:=elim_l s
 refine qr (mv u (mv u (av u (av u (nq (wc_ret ?_))))))
 cases oi s
 exact qe_ret (vs:=[_,_]) results50 ⟨u,u,trivial⟩ ⟨x,u,cf,cg,ch⟩

theorem ok_spec_DawgHead {q0:List GState}{q1:Str}{r:(List Str)}(hS:SH w K [] w K [])(d:SliceAt tGState K A a b q0)(q:q1.length≤maxLen)(hm:M.spec_DawgHead F q0 q1=some r):
  Calls prog 17 #[V3 A a b,sv q1] w fun e w'=>∃a_1 n_2 c_3 K',e= .returned (V3 a_1 n_2 c_3)∧SH w K [] w' K' [tail (V3 a_1 n_2 c_3) 9 1]∧SliceAt tStr K' a_1 n_2 c_3 r:=by
 rw [M.spec_DawgHead] at hm
 refine ci func17 u ntmps17 (sr (lv (r_n u) (nr (b0 tStr underlying35 tf9 hS fun s w7 K8 f x y=>(av u (nsr (mv u ?_)))))))
 obtain⟨ae,B,C⟩:=ob hm
 refine lk co49 (ok_spec_l4Ok F y.enter0 (d.mono f) B) ?_
 rintro af ag ⟨D,rfl,c⟩
 have i:=(y.c0 c).t1
 refine lv (rv_not u) (nq (wcc C u (fun G k=>?_) (fun G k=>?_)))
 ·refine sr (mv u (av u (nq (rr ?_))))
  cases oi k
  exact ey results17 ⟨s,0,0,D,u,i,(x.mono c.le)⟩
 refine wc_skip (qr (mv u (mv u ?_)))
 obtain⟨ah,H,I⟩:=ob k
 refine lk co50 (ok_spec_l4Go F i.enter0 (d.mono (f.trans c.le)) q H) ?_
 rintro ai aj ⟨J,rfl,l,O,ak⟩
 have m:=(i.c0 l).t1
 refine mv u (lv (rv_extract u u) (lv (rv_extract u u) (av u (av u (nsr (mv u (lv (rv_lss u u) (nq (wcc I u (fun R o=>?_) (fun R o=>?_))))))))))
 ·refine sr (mv u (av u (nq (rr ?_))))
  cases oi o
  exact ey results17 ⟨s,0,0,J,u,m,(x.mono (c.le.trans l.le))⟩
 refine wc_skip (qr (mv u (mv u (mv u ?_))))
 obtain⟨al,S,T⟩:=ob o
 refine lk co51 (ok_spec_l4All F m.enter0 (d.mono ((f.trans c.le).trans l.le)) O q S) ?_
 rintro am an ⟨U,V,W,X,rfl,Y,aa⟩
 have ab:=(m.c0 Y).t2
 refine av u (nq (wc_ret ?_))
 cases oi T
 exact ey results17 ⟨U,V,W,X,u,ab.s,aa⟩
end Go.Proofs.Ytepcfgnicnibnaa
