/-
 Walks of the functions. Printed by gen.py.
-/
import Derived.Test.YtpjefkdclnmlfaaGreatFacts
set_option linter.unusedVariables false
set_option linter.unusedSectionVars false
set_option maxRecDepth 100000
namespace Go.Proofs.YtpjefkdclnmlfaaGreat
set_option maxHeartbeats 4000000
open Go Go.Fk Go.RowKit Tryz
variable (F:Nat){w:World}{K:KMap}{Z:List Nat}{g1 g2 g3:Nat}{A B C D G H I J O R S T:Option Addr}{a b c d f i k l m n o p q s v x y aa ab ac ad ae af ag:Nat}
variable [dr:Dr]

theorem ok_laws_szStringS {q0:List Str}{q1:Int}{r:Int}(hS:SH w K [] w K [])(m:SliceAt tStr K A a b q0)(ad:rng64 q1)(hm:M.laws_szStringS F q0 q1=some r):
  Calls prog 63 #[V3 A a b,V6 q1] w (R_i w K r):=by
 rw [M.laws_szStringS] at hm
 refine ci func63 u ntmps63 (sr (lv (r_0 u) (nr (mv u (mv u (lv (rv_len underlying22 u m) (lv (rv_sub u u) (av u (nsr ?_)))))))))
 refine mv u (lv (rv_lss u u) (nq (wc_cond u (fun o=>?_) (fun o=>?_))))
 ·have q:=cond_t o hm
  refine sr (lv (rv_assign (v:=V6 (-1)) u) (nq (rr ?_)))
  cases oi q
  exact ey results63 ⟨K,u,hS,(by decide :rng64 (-1))⟩
 have q:=cond_f o hm
 refine wc_skip (qs (sr (lv (r_0 u) (nq ?_))))
 obtain⟨D,G,d⟩:=ob q
 refine wc_cutg (fun E' w'=>∃f i,D= .inl f∧E'=[(1,V6 f)]∧SH w K [] w' i []∧KLe K i∧rng64 f) ?_ ?_
 ·refine wc_block ?_
  obtain⟨ae,H,B⟩:=ob G
  refine qw (fun (c:Int×Int)=>IW w K [] K [(0,V3 A a b),(1,V6 c.1),(5,V6 c.2)] [] (rng64 c.1∧rng64 c.2)) H ⟨K,u,hS,kr,(w64_rng _),d_0⟩ ?_
  rintro c _ af ag I C ⟨s,rfl,k,l,J,ah⟩
  refine wc_seq (sr (mv u (mv u (lv (rv_len underlying22 u (m.mono l)) (lv (rv_lss u u) (nq (wcc I u (fun O x=>?_) (fun O x=>?_))))))))
  ·refine wc_skip (qs (wc_block (sr (mv u (mv u (mv u ?_))))))
   obtain⟨R,S,T⟩:=ob x
   refine li underlying22 tf9 (m.mono l) S fun U V ai W X=>?_
   obtain⟨rfl,aj⟩:=W
   have Y:AtK _ U V [sv R]:=X
   refine lv (rv_load1 tf9 u k (Y 0 _ u)) (lv (rv_slen underlying9 u) (lv (rv_sub u u) (av u (nr (mv u (lv (rv_lss u u) (nq (wcc T u (fun aa y=>?_) (fun aa y=>?_)))))))))
   ·refine sr (lv (rv_assign (v:=V6 (-1)) u) (nq (wc_ret (qe_block_ret (qe_then_ret (qe_then_ret ?_))))))
    cases oi y
    cases C _ u
    refine qe_block_ret (qe_then_ret ?_)
    cases oi B
    refine qe_then_ret ?_
    cases oi d
    exact ey results63 ⟨s,u,k,(by decide :rng64 (-1))⟩
   refine wc_skip (qe_block (qe_seq (wc_region (mv u (lv (rv_add u u) (av u (wl_nil ?_)))))))
   cases oi y
   exact qd ⟨_,u,s,u,k,l,(w64_rng _),(w64_rng _)⟩
  refine wc_exit (qe_then_exit (qe_then_exit ?_))
  cases oi x
  cases C _ u
  refine qe_block_eq ?_
  cases oi B
  exact qd ⟨_,s,u,u,k,l,J⟩
 rintro _ ak ⟨f,i,rfl,rfl,ab,al,ac⟩
 have d:=elim_l d
 refine qr (mv u (av u (nq (wc_ret ?_))))
 cases oi d
 exact ey results63 ⟨i,u,ab,ac⟩

theorem ok_laws_szSyn {q0:GSyn}{q1:Int}{r:Int}(hS:SH w K [] w K [])(l:SliceAt tStr K A a b q0.From)(D:q0.To.length≤maxLen)(m:rng64 q1)(hm:M.laws_szSyn F q0 q1=some r):
  Calls prog 133 #[.agg #[V3 A a b,sv q0.To],V6 q1] w (R_i w K r):=by
 rw [M.laws_szSyn] at hm
 refine ci func133 u ntmps133 (sr (bx u hS fun o G q=>?_))
 have d:SH _ _ _ _ _ [obj o [V3 A a b,sv q0.To] 170]:=q
 refine lv (r_0 u) (nr (fl ff170_0 u tf22 m0 d u (mv u ?_)))
 obtain⟨H,s,x⟩:=ob hm
 refine lk co63 (ok_laws_szStringS F d.enter0 l m s) ?_
 rintro I J ⟨f,rfl,y,O⟩
 have c:=(d.c0 y).t1
 refine av u (nsr (mv u (lv (rv_lss u u) (nq (wcc x u (fun B i=>?_) (fun B i=>?_))))))
 ·refine sr (lv (rv_assign (v:=V6 (-1)) u) (nq (rr ?_)))
  cases oi i
  exact ey results133 ⟨f,u,c.s,(by decide :rng64 (-1))⟩
 refine wc_skip (qr (mv u (fl ff170_1 u tf9 m0 c u (lv (rv_slen underlying9 u) (lv (rv_sub u u) (av u (nsr (mv u (lv (rv_lss u u) ?_)))))))))
 refine nq (wcc i u (fun C k=>?_) (fun C k=>?_))
 ·refine sr (lv (rv_assign (v:=V6 (-1)) u) (nq (rr ?_)))
  cases oi k
  exact ey results133 ⟨f,u,c.s,(by decide :rng64 (-1))⟩
 refine wc_skip (qr (mv u (av u (nq (wc_ret ?_)))))
 cases oi k
 exact ey results133 ⟨f,u,c.s,(w64_rng _)⟩

theorem ok_laws_szSynS {q0:List GSyn}{q1:Int}{r:Int}(hS:SH w K [] w K [])(m:SliceAt tGSyn K A a b q0)(ao:rng64 q1)(hm:M.laws_szSynS F q0 q1=some r):
  Calls prog 64 #[V3 A a b,V6 q1] w (R_i w K r):=by
 rw [M.laws_szSynS] at hm
 refine ci func64 u ntmps64 (sr (lv (r_0 u) (nr (mv u (mv u (lv (rv_len underlying23 u m) (lv (rv_sub u u) (av u (nsr ?_)))))))))
 refine mv u (lv (rv_lss u u) (nq (wc_cond u (fun o=>?_) (fun o=>?_))))
 ·have q:=cond_t o hm
  refine sr (lv (rv_assign (v:=V6 (-1)) u) (nq (rr ?_)))
  cases oi q
  exact ey results64 ⟨K,u,hS,(by decide :rng64 (-1))⟩
 have q:=cond_f o hm
 refine wc_skip (qs (sr (lv (r_0 u) (nq ?_))))
 obtain⟨I,J,d⟩:=ob q
 refine wc_cutg (fun E' w'=>∃f i,I= .inl f∧E'=[(1,V6 f)]∧SH w K [] w' i []∧KLe K i∧rng64 f) ?_ ?_
 ·refine wc_block ?_
  obtain⟨ap,O,y⟩:=ob J
  refine qw (fun (c:Int×Int)=>IW w K [] K [(0,V3 A a b),(1,V6 c.1),(5,V6 c.2)] [] (rng64 c.1∧rng64 c.2)) O ⟨K,u,hS,kr,(w64_rng _),d_0⟩ ?_
  rintro c _ aq ar R B ⟨S,rfl,k,l,C,au⟩
  refine wc_seq (sr (mv u (mv u (lv (rv_len underlying23 u (m.mono l)) (lv (rv_lss u u) (nq (wcc R u (fun T s=>?_) (fun T s=>?_))))))))
  ·refine wc_skip (qs (wc_block (sr (mv u (mv u ?_)))))
   obtain⟨U,V,W⟩:=ob s
   refine li underlying23 tf170 (m.mono l) V fun X Y aw aa ab=>?_
   obtain⟨ac,ad,ae,rfl,af,ag⟩:=aa
   have ah:AtK _ X Y [V3 ac ad ae,sv U.To]:=ab
   refine lv (rv_loadS tf170 u k ah u) (mv u ?_)
   obtain⟨ax,ai,aj⟩:=ob W
   refine lk co133 (ok_laws_szSyn F k.enter0 af ag C ai) ?_
   rintro ay az ⟨D,rfl,G,ak⟩
   have H:=(k.c0 G).t0
   refine av u (nr (mv u (lv (rv_lss u u) (nq (wcc aj u (fun al x=>?_) (fun al x=>?_))))))
   ·refine sr (lv (rv_assign (v:=V6 (-1)) u) (nq (wc_ret (qe_block_ret (qe_then_ret (qe_then_ret ?_))))))
    cases oi x
    cases B _ u
    refine qe_block_ret (qe_then_ret ?_)
    cases oi y
    refine qe_then_ret ?_
    cases oi d
    exact ey results64 ⟨D,u,H,(by decide :rng64 (-1))⟩
   refine wc_skip (qe_block (qe_seq (wc_region (mv u (lv (rv_add u u) (av u (wl_nil ?_)))))))
   cases oi x
   exact qd ⟨_,u,D,u,H,(l.trans G.le),ak,(w64_rng _)⟩
  refine wc_exit (qe_then_exit (qe_then_exit ?_))
  cases oi s
  cases B _ u
  refine qe_block_eq ?_
  cases oi y
  exact qd ⟨_,S,u,u,k,l,C⟩
 rintro _ aA ⟨f,i,rfl,rfl,am,aB,an⟩
 have d:=elim_l d
 refine qr (mv u (av u (nq (wc_ret ?_))))
 cases oi d
 exact ey results64 ⟨i,u,am,an⟩

theorem ok_laws_szConf {q0:GConf}{q1:Int}{r:Int}(hS:SH w K [] w K [])(s:SliceAt tStr K A a b q0.Stops)(x:SliceAt tGSyn K B c d q0.Syns)(y:rng64 q1)(hm:M.laws_szConf F q0 q1=some r):
  Calls prog 16 #[.agg #[V3 A a b,V3 B c d],V6 q1] w (R_i w K r):=by
 rw [M.laws_szConf] at hm
 refine ci func16 u ntmps16 (sr (bx u hS fun C W D=>?_))
 have i:SH _ _ _ _ _ [obj C [V3 A a b,V3 B c d] 25]:=D
 refine lv (r_0 u) (nr (fl ff25_0 u tf22 m0 i u (mv u ?_)))
 obtain⟨X,G,H⟩:=ob hm
 refine lk co63 (ok_laws_szStringS F i.enter0 s y G) ?_
 rintro Y aa ⟨I,rfl,m,J⟩
 have f:=(i.c0 m).t1
 refine av u (nsr (mv u (lv (rv_lss u u) (nq (wcc H u (fun O k=>?_) (fun O k=>?_))))))
 ·refine sr (lv (rv_assign (v:=V6 (-1)) u) (nq (rr ?_)))
  cases oi k
  exact ey results16 ⟨I,u,f.s,(by decide :rng64 (-1))⟩
 refine wc_skip (qr (fl ff25_1 u tf23 m0 f u (mv u ?_)))
 obtain⟨ab,R,S⟩:=ob k
 refine lk co64 (ok_laws_szSynS F f.enter0 (x.mono m.le) J R) ?_
 rintro ac ad ⟨o,rfl,T,U⟩
 have q:=(f.c0 T).t1
 refine av u (nsr (mv u (lv (rv_lss u u) (nq (wcc S u (fun V l=>?_) (fun V l=>?_))))))
 ·refine sr (lv (rv_assign (v:=V6 (-1)) u) (nq (rr ?_)))
  cases oi l
  exact ey results16 ⟨o,u,q.s,(by decide :rng64 (-1))⟩
 refine wc_skip (qr (mv u (av u (nq (wc_ret ?_)))))
 cases oi l
 exact ey results16 ⟨o,u,q.s,U⟩

theorem ok_laws_szField {q0:GField}{q1:Int}{r:Int}(hS:SH w K [] w K [])(q:q0.Name.length≤maxLen)(s:q0.Text.length≤maxLen)(x:rng64 q1)(hm:M.laws_szField F q0 q1=some r):
  Calls prog 190 #[.agg #[sv q0.Name,sv q0.Text],V6 q1] w (R_i w K r):=by
 rw [M.laws_szField] at hm
 refine ci func190 u ntmps190 (sr (bx u hS fun i y k=>?_))
 have a:SH _ _ _ _ _ [obj i [sv q0.Name,sv q0.Text] 223]:=k
 refine lv (r_0 u) (nr (mv u (fl ff223_0 u tf9 m0 a u (lv (rv_slen underlying9 u) (lv (rv_sub u u) (av u (nsr (mv u (lv (rv_lss u u) ?_)))))))))
 refine nq (wc_cond u (fun b=>?_) (fun b=>?_))
 ·have c:=cond_t b hm
  refine sr (lv (rv_assign (v:=V6 (-1)) u) (nq (rr ?_)))
  cases oi c
  exact ey results190 ⟨K,u,a.s,(by decide :rng64 (-1))⟩
 have c:=cond_f b hm
 refine wc_skip (qr (mv u (fl ff223_1 u tf9 m0 a u (lv (rv_slen underlying9 u) (lv (rv_sub u u) ?_)))))
 obtain⟨A,l,m⟩:=ob c
 have f:=oi l
 refine lv (rv_as u (congrArg (Value.int .i64) f)) (nsr (mv u (lv (rv_lss u u) (nq (wcc m u (fun o d=>?_) (fun o d=>?_))))))
 ·refine sr (lv (rv_assign (v:=V6 (-1)) u) (nq (rr ?_)))
  cases oi d
  exact ey results190 ⟨K,u,a.s,(by decide :rng64 (-1))⟩
 refine wc_skip (qr (mv u (av u (nq (wc_ret ?_)))))
 cases oi d
 exact ey results190 ⟨K,u,a.s,(cast_rng f (w64_rng _))⟩

theorem ok_laws_szFieldS {q0:List GField}{q1:Int}{r:Int}(hS:SH w K [] w K [])(m:SliceAt tGField K A a b q0)(al:rng64 q1)(hm:M.laws_szFieldS F q0 q1=some r):
  Calls prog 134 #[V3 A a b,V6 q1] w (R_i w K r):=by
 rw [M.laws_szFieldS] at hm
 refine ci func134 u ntmps134 (sr (lv (r_0 u) (nr (mv u (mv u (lv (rv_len underlying99 u m) (lv (rv_sub u u) (av u (nsr ?_)))))))))
 refine mv u (lv (rv_lss u u) (nq (wc_cond u (fun o=>?_) (fun o=>?_))))
 ·have q:=cond_t o hm
  refine sr (lv (rv_assign (v:=V6 (-1)) u) (nq (rr ?_)))
  cases oi q
  exact ey results134 ⟨K,u,hS,(by decide :rng64 (-1))⟩
 have q:=cond_f o hm
 refine wc_skip (qs (sr (lv (r_0 u) (nq ?_))))
 obtain⟨J,O,d⟩:=ob q
 refine wc_cutg (fun E' w'=>∃f i,J= .inl f∧E'=[(1,V6 f)]∧SH w K [] w' i []∧KLe K i∧rng64 f) ?_ ?_
 ·refine wc_block ?_
  obtain⟨am,R,y⟩:=ob O
  refine qw (fun (c:Int×Int)=>IW w K [] K [(0,V3 A a b),(1,V6 c.1),(5,V6 c.2)] [] (rng64 c.1∧rng64 c.2)) R ⟨K,u,hS,kr,(w64_rng _),d_0⟩ ?_
  rintro c _ an ao S B ⟨T,rfl,k,l,C,ap⟩
  refine wc_seq (sr (mv u (mv u (lv (rv_len underlying99 u (m.mono l)) (lv (rv_lss u u) (nq (wcc S u (fun U s=>?_) (fun U s=>?_))))))))
  ·refine wc_skip (qs (wc_block (sr (mv u (mv u ?_)))))
   obtain⟨D,V,W⟩:=ob s
   refine li underlying99 tf223 (m.mono l) V fun X Y aq aa ab=>?_
   obtain⟨rfl,ac,ad⟩:=aa
   have ae:AtK _ X Y [sv D.Name,sv D.Text]:=ab
   refine lv (rv_loadS tf223 u k ae u) (mv u ?_)
   obtain⟨ar,af,ag⟩:=ob W
   refine lk co190 (ok_laws_szField F k.enter0 ac ad C af) ?_
   rintro au aw ⟨G,rfl,H,ah⟩
   have I:=(k.c0 H).t0
   refine av u (nr (mv u (lv (rv_lss u u) (nq (wcc ag u (fun ai x=>?_) (fun ai x=>?_))))))
   ·refine sr (lv (rv_assign (v:=V6 (-1)) u) (nq (wc_ret (qe_block_ret (qe_then_ret (qe_then_ret ?_))))))
    cases oi x
    cases B _ u
    refine qe_block_ret (qe_then_ret ?_)
    cases oi y
    refine qe_then_ret ?_
    cases oi d
    exact ey results134 ⟨G,u,I,(by decide :rng64 (-1))⟩
   refine wc_skip (qe_block (qe_seq (wc_region (mv u (lv (rv_add u u) (av u (wl_nil ?_)))))))
   cases oi x
   exact qd ⟨_,u,G,u,I,(l.trans H.le),ah,(w64_rng _)⟩
  refine wc_exit (qe_then_exit (qe_then_exit ?_))
  cases oi s
  cases B _ u
  refine qe_block_eq ?_
  cases oi y
  exact qd ⟨_,T,u,u,k,l,C⟩
 rintro _ ax ⟨f,i,rfl,rfl,aj,ay,ak⟩
 have d:=elim_l d
 refine qr (mv u (av u (nq (wc_ret ?_))))
 cases oi d
 exact ey results134 ⟨i,u,aj,ak⟩

theorem ok_laws_szAttr {q0:GAttr}{q1:Int}{r:Int}(hS:SH w K [] w K [])(i:q0.Name.length≤maxLen)(k:rng64 q0.Num)(l:rng64 q1)(hm:M.laws_szAttr F q0 q1=some r):
  Calls prog 191 #[.agg #[sv q0.Name,V6 q0.Num],V6 q1] w (R_i w K r):=by
 rw [M.laws_szAttr] at hm
 refine ci func191 u ntmps191 (sr (bx u hS fun d m f=>?_))
 have a:SH _ _ _ _ _ [obj d [sv q0.Name,V6 q0.Num] 225]:=f
 refine lv (r_0 u) (nr (mv u (fl ff225_0 u tf9 m0 a u (lv (rv_slen underlying9 u) (lv (rv_sub u u) (av u (nsr (mv u (lv (rv_lss u u) ?_)))))))))
 refine nq (wc_cond u (fun b=>?_) (fun b=>?_))
 ·have c:=cond_t b hm
  refine sr (lv (rv_assign (v:=V6 (-1)) u) (nq (rr ?_)))
  cases oi c
  exact ey results191 ⟨K,u,a.s,(by decide :rng64 (-1))⟩
 have c:=cond_f b hm
 refine wc_skip (qr (mv u (av u (nq (wc_ret ?_)))))
 cases oi c
 exact ey results191 ⟨K,u,a.s,(w64_rng _)⟩

theorem ok_laws_szAttrS {q0:List GAttr}{q1:Int}{r:Int}(hS:SH w K [] w K [])(m:SliceAt tGAttr K A a b q0)(al:rng64 q1)(hm:M.laws_szAttrS F q0 q1=some r):
  Calls prog 135 #[V3 A a b,V6 q1] w (R_i w K r):=by
 rw [M.laws_szAttrS] at hm
 refine ci func135 u ntmps135 (sr (lv (r_0 u) (nr (mv u (mv u (lv (rv_len underlying100 u m) (lv (rv_sub u u) (av u (nsr ?_)))))))))
 refine mv u (lv (rv_lss u u) (nq (wc_cond u (fun o=>?_) (fun o=>?_))))
 ·have q:=cond_t o hm
  refine sr (lv (rv_assign (v:=V6 (-1)) u) (nq (rr ?_)))
  cases oi q
  exact ey results135 ⟨K,u,hS,(by decide :rng64 (-1))⟩
 have q:=cond_f o hm
 refine wc_skip (qs (sr (lv (r_0 u) (nq ?_))))
 obtain⟨J,O,d⟩:=ob q
 refine wc_cutg (fun E' w'=>∃f i,J= .inl f∧E'=[(1,V6 f)]∧SH w K [] w' i []∧KLe K i∧rng64 f) ?_ ?_
 ·refine wc_block ?_
  obtain⟨am,R,y⟩:=ob O
  refine qw (fun (c:Int×Int)=>IW w K [] K [(0,V3 A a b),(1,V6 c.1),(5,V6 c.2)] [] (rng64 c.1∧rng64 c.2)) R ⟨K,u,hS,kr,(w64_rng _),d_0⟩ ?_
  rintro c _ an ao S B ⟨T,rfl,k,l,C,ap⟩
  refine wc_seq (sr (mv u (mv u (lv (rv_len underlying100 u (m.mono l)) (lv (rv_lss u u) (nq (wcc S u (fun U s=>?_) (fun U s=>?_))))))))
  ·refine wc_skip (qs (wc_block (sr (mv u (mv u ?_)))))
   obtain⟨D,V,W⟩:=ob s
   refine li underlying100 tf225 (m.mono l) V fun X Y aq aa ab=>?_
   obtain⟨rfl,ac,ad⟩:=aa
   have ae:AtK _ X Y [sv D.Name,V6 D.Num]:=ab
   refine lv (rv_loadS tf225 u k ae u) (mv u ?_)
   obtain⟨ar,af,ag⟩:=ob W
   refine lk co191 (ok_laws_szAttr F k.enter0 ac ad C af) ?_
   rintro au aw ⟨G,rfl,H,ah⟩
   have I:=(k.c0 H).t0
   refine av u (nr (mv u (lv (rv_lss u u) (nq (wcc ag u (fun ai x=>?_) (fun ai x=>?_))))))
   ·refine sr (lv (rv_assign (v:=V6 (-1)) u) (nq (wc_ret (qe_block_ret (qe_then_ret (qe_then_ret ?_))))))
    cases oi x
    cases B _ u
    refine qe_block_ret (qe_then_ret ?_)
    cases oi y
    refine qe_then_ret ?_
    cases oi d
    exact ey results135 ⟨G,u,I,(by decide :rng64 (-1))⟩
   refine wc_skip (qe_block (qe_seq (wc_region (mv u (lv (rv_add u u) (av u (wl_nil ?_)))))))
   cases oi x
   exact qd ⟨_,u,G,u,I,(l.trans H.le),ah,(w64_rng _)⟩
  refine wc_exit (qe_then_exit (qe_then_exit ?_))
  cases oi s
  cases B _ u
  refine qe_block_eq ?_
  cases oi y
  exact qd ⟨_,T,u,u,k,l,C⟩
 rintro _ ax ⟨f,i,rfl,rfl,aj,ay,ak⟩
 have d:=elim_l d
 refine qr (mv u (av u (nq (wc_ret ?_))))
 cases oi d
 exact ey results135 ⟨i,u,aj,ak⟩

theorem ok_laws_szDoc {q0:GDoc}{q1:Int}{r:Int}(hS:SH w K [] w K [])(W:rng64 q0.Id)(s:SliceAt tGField K A a b q0.Fields)(x:SliceAt tGAttr K B c d q0.Nums)(y:rng64 q1)(hm:M.laws_szDoc F q0 q1=some r):
  Calls prog 65 #[.agg #[V6 q0.Id,V3 A a b,V3 B c d],V6 q1] w (R_i w K r):=by
 rw [M.laws_szDoc] at hm
 refine ci func65 u ntmps65 (sr (bx u hS fun C X D=>?_))
 have i:SH _ _ _ _ _ [obj C [V6 q0.Id,V3 A a b,V3 B c d] 102]:=D
 refine lv (r_0 u) (nr (fl ff102_1 u tf99 m0 i u (mv u ?_)))
 obtain⟨Y,G,H⟩:=ob hm
 refine lk co134 (ok_laws_szFieldS F i.enter0 s y G) ?_
 rintro aa ab ⟨I,rfl,m,J⟩
 have f:=(i.c0 m).t1
 refine av u (nsr (mv u (lv (rv_lss u u) (nq (wcc H u (fun O k=>?_) (fun O k=>?_))))))
 ·refine sr (lv (rv_assign (v:=V6 (-1)) u) (nq (rr ?_)))
  cases oi k
  exact ey results65 ⟨I,u,f.s,(by decide :rng64 (-1))⟩
 refine wc_skip (qr (fl ff102_2 u tf100 m0 f u (mv u ?_)))
 obtain⟨ac,R,S⟩:=ob k
 refine lk co135 (ok_laws_szAttrS F f.enter0 (x.mono m.le) J R) ?_
 rintro ad ae ⟨o,rfl,T,U⟩
 have q:=(f.c0 T).t1
 refine av u (nsr (mv u (lv (rv_lss u u) (nq (wcc S u (fun V l=>?_) (fun V l=>?_))))))
 ·refine sr (lv (rv_assign (v:=V6 (-1)) u) (nq (rr ?_)))
  cases oi l
  exact ey results65 ⟨o,u,q.s,(by decide :rng64 (-1))⟩
 refine wc_skip (qr (mv u (av u (nq (wc_ret ?_)))))
 cases oi l
 exact ey results65 ⟨o,u,q.s,U⟩

theorem ok_laws_szDocS {q0:List GDoc}{q1:Int}{r:Int}(hS:SH w K [] w K [])(m:SliceAt tGDoc K A a b q0)(au:rng64 q1)(hm:M.laws_szDocS F q0 q1=some r):
  Calls prog 17 #[V3 A a b,V6 q1] w (R_i w K r):=by
 rw [M.laws_szDocS] at hm
 refine ci func17 u ntmps17 (sr (lv (r_0 u) (nr (mv u (mv u (lv (rv_len underlying40 u m) (lv (rv_sub u u) (av u (nsr ?_)))))))))
 refine mv u (lv (rv_lss u u) (nq (wc_cond u (fun o=>?_) (fun o=>?_))))
 ·have q:=cond_t o hm
  refine sr (lv (rv_assign (v:=V6 (-1)) u) (nq (rr ?_)))
  cases oi q
  exact ey results17 ⟨K,u,hS,(by decide :rng64 (-1))⟩
 have q:=cond_f o hm
 refine wc_skip (qs (sr (lv (r_0 u) (nq ?_))))
 obtain⟨I,J,d⟩:=ob q
 refine wc_cutg (fun E' w'=>∃f i,I= .inl f∧E'=[(1,V6 f)]∧SH w K [] w' i []∧KLe K i∧rng64 f) ?_ ?_
 ·refine wc_block ?_
  obtain⟨aw,O,y⟩:=ob J
  refine qw (fun (c:Int×Int)=>IW w K [] K [(0,V3 A a b),(1,V6 c.1),(5,V6 c.2)] [] (rng64 c.1∧rng64 c.2)) O ⟨K,u,hS,kr,(w64_rng _),d_0⟩ ?_
  rintro c _ ax ay R B ⟨S,rfl,k,l,C,az⟩
  refine wc_seq (sr (mv u (mv u (lv (rv_len underlying40 u (m.mono l)) (lv (rv_lss u u) (nq (wcc R u (fun T s=>?_) (fun T s=>?_))))))))
  ·refine wc_skip (qs (wc_block (sr (mv u (mv u ?_)))))
   obtain⟨U,V,W⟩:=ob s
   refine li underlying40 tf102 (m.mono l) V fun X Y aA aa ab=>?_
   obtain⟨ac,ad,ae,af,ag,ah,rfl,ai,aj,ak⟩:=aa
   have al:AtK _ X Y [V6 U.Id,V3 ac ad ae,V3 af ag ah]:=ab
   refine lv (rv_loadS tf102 u k al u) (mv u ?_)
   obtain⟨aB,am,an⟩:=ob W
   refine lk co65 (ok_laws_szDoc F k.enter0 ai aj ak C am) ?_
   rintro aC aD ⟨D,rfl,G,ao⟩
   have H:=(k.c0 G).t0
   refine av u (nr (mv u (lv (rv_lss u u) (nq (wcc an u (fun ap x=>?_) (fun ap x=>?_))))))
   ·refine sr (lv (rv_assign (v:=V6 (-1)) u) (nq (wc_ret (qe_block_ret (qe_then_ret (qe_then_ret ?_))))))
    cases oi x
    cases B _ u
    refine qe_block_ret (qe_then_ret ?_)
    cases oi y
    refine qe_then_ret ?_
    cases oi d
    exact ey results17 ⟨D,u,H,(by decide :rng64 (-1))⟩
   refine wc_skip (qe_block (qe_seq (wc_region (mv u (lv (rv_add u u) (av u (wl_nil ?_)))))))
   cases oi x
   exact qd ⟨_,u,D,u,H,(l.trans G.le),ao,(w64_rng _)⟩
  refine wc_exit (qe_then_exit (qe_then_exit ?_))
  cases oi s
  cases B _ u
  refine qe_block_eq ?_
  cases oi y
  exact qd ⟨_,S,u,u,k,l,C⟩
 rintro _ aE ⟨f,i,rfl,rfl,aq,aF,ar⟩
 have d:=elim_l d
 refine qr (mv u (av u (nq (wc_ret ?_))))
 cases oi d
 exact ey results17 ⟨i,u,aq,ar⟩

theorem ok_spec_l1In {q0:Int}{q1:Int}{q2:Int}{r:Bool}(hS:SH w K [] w K [])(c:rng64 q0)(d:rng64 q1)(f:rng64 q2)(hm:M.spec_l1In F q0 q1 q2=some r):
  Calls prog 109 #[V6 q0,V6 q1,V6 q2] w (R_b w K r):=by
 rw [M.spec_l1In] at hm
 refine ci func109 u ntmps109 (sr (lv (r_f u) (nr (mv u (mv u (lv (rv_geq u u) (mv u (bt hm (fun a b=>?_) (fun a b=>?_)))))))))
 ·refine lg a (rv_move u) (lg a (rv_move u) (lg a (rv_leq u u) (lv (rv_pick_t u a u) (av u (nq (wc_ret ?_))))))
  cases oi b
  exact ey results109 ⟨K,u,hS⟩
 refine lu a (lu a (lu a (lv (p_f u a u) (av u (nq (wc_ret ?_))))))
 cases oi b
 exact ey results109 ⟨K,u,hS⟩

theorem ok_spec_l1Fold {q0:UInt8}{r:UInt8}(hS:SH w K [] w K [])(hm:M.spec_l1Fold F q0=some r):
  Calls prog 192 #[iv8 q0] w fun e w'=>∃K',e= .returned (iv8 r)∧SH w K [] w' K' []:=by
 rw [M.spec_l1Fold] at hm
 refine ci func192 u ntmps192 (sr (lv (rv_assign (v:=iv8 0) u) (ns (wc_block (wc_seq ?_)))))
 obtain⟨D,G,H⟩:=ob hm
 refine wc_cutg (IV w K [] K [(0,iv8 q0),(3,.bool D)] []) ?_ ?_
 ·refine wc_region (mv u (lv (rv_bge (b:=(65:UInt8)) u u) (mv u (bt G (fun c m=>?_) (fun c m=>?_)))))
  ·refine lg c (rv_move u) (lg c (rv_ble (b:=(90:UInt8)) u u) (lv (rv_pick_t u c u) (av u (wl_nil ?_))))
   cases oi m
   exact qd ⟨K,u,hS,kr⟩
  refine lu c (lu c (lv (p_f u c u) (av u (wl_nil ?_))))
  cases oi m
  exact qd ⟨K,u,hS,kr⟩
 rintro _ T ⟨d,rfl,l,U⟩
 refine qe_seq (wcc H u (fun I o=>?_) (fun I o=>?_))
 ·refine sr (mv u (lv (rv_badd (b:=(32:UInt8)) u u) (av u (nq (wc_ret (qe_block_ret (qe_then_ret ?_)))))))
  cases oi o
  exact ey results192 ⟨d,u,l⟩
 refine wc_seq ?_
 obtain⟨J,O,R⟩:=ob o
 refine wc_cutg (IV w K [] d [(0,iv8 q0),(12,.bool J)] []) ?_ ?_
 ·refine wc_region (mv u (lv (rv_bge (b:=(97:UInt8)) u u) (mv u (bt O (fun f q=>?_) (fun f q=>?_)))))
  ·refine lg f (rv_move u) (lg f (rv_ble (b:=(122:UInt8)) u u) (lv (rv_pick_t u f u) (mv u (bt q (fun a s=>?_) (fun a s=>?_)))))
   ·refine lu a (lu a (lu a (wl_un (uu u u) u (wl_un (uu u u) u (lu a (lv (p_t u a u) (av u (wl_nil ?_))))))))
    cases oi s
    exact qd ⟨d,u,l,kr⟩
   refine lg a (rv_move u) (lg a (rv_bge (b:=(48:UInt8)) u u) (lg a (rv_move u) (bt s (fun i x=>?_) (fun i x=>?_))))
   ·refine lg i (rv_move u) (lg i (rv_ble (b:=(57:UInt8)) u u) (lg a (rv_pick_t u i u) (lv (rv_pick_f u a u) (av u (wl_nil ?_)))))
    cases oi x
    exact qd ⟨d,u,l,kr⟩
   refine lu i (lu i (lg a (p_f u i u) (lv (rv_pick_f u a u) (av u (wl_nil ?_)))))
   cases oi x
   exact qd ⟨d,u,l,kr⟩
  refine lu f (lu f (lv (p_f u f u) (mv u (lg u (rv_move u) (lg u (rv_bge (b:=(48:UInt8)) u u) (lg u (rv_move u) (bt q (fun k y=>?_) (fun k y=>?_))))))))
  ·refine lg k (rv_move u) (lg k (rv_ble (b:=(57:UInt8)) u u) (lg u (rv_pick_t u k u) (lv (rv_pick_f u u u) (av u (wl_nil ?_)))))
   cases oi y
   exact qd ⟨d,u,l,kr⟩
  refine lu k (lu k (lg u (p_f u k u) (lv (rv_pick_f u u u) (av u (wl_nil ?_)))))
  cases oi y
  exact qd ⟨d,u,l,kr⟩
 rintro _ V ⟨B,rfl,C,W⟩
 refine qe_seq (wcc R u (fun S A=>?_) (fun S A=>?_))
 ·refine sr (mv u (av u (nq (wc_ret (qe_block_ret (qe_then_ret ?_))))))
  cases oi A
  exact ey results192 ⟨B,u,C⟩
 refine wc_skip (qe_block (qr (lv (rv_assign (v:=iv8 0) u) (nq (wc_ret ?_)))))
 cases oi A
 exact ey results192 ⟨B,u,C⟩

theorem ok_spec_l1WordOk {q0:Str}{r:Bool}(hS:SH w K [] w K [])(B:q0.length≤maxLen)(hm:M.spec_l1WordOk F q0=some r):
  Calls prog 136 #[sv q0] w (R_b w K r):=by
 rw [M.spec_l1WordOk] at hm
 refine ci func136 u ntmps136 (sr (lv (r_f u) (nsr (lv (r_0 u) (nq ?_)))))
 obtain⟨C,D,c⟩:=ob hm
 refine wc_cutg (IE C w K [] K [(0,sv q0)] []) ?_ ?_
 ·refine wc_block ?_
  obtain⟨ap,G,l⟩:=ob D
  refine qw (fun (d:Int)=>IW w K [] K [(0,sv q0),(3,V6 d)] [] (rng64 d)) G ⟨K,u,hS,kr,d_0⟩ ?_
  rintro d _ aq ar H m ⟨o,rfl,q,s,au⟩
  refine wc_seq (sr (mv u (mv u (lv (rv_slen underlying9 u) (lv (rv_lss u u) (nq (wcc H u (fun I f=>?_) (fun I f=>?_))))))))
  ·refine wc_skip (qs (wc_block (wc_seq ?_)))
   obtain⟨J,O,R⟩:=ob f
   refine wc_cutg (IV w K [] o [(0,sv q0),(3,V6 d),(23,.bool J)] []) ?_ ?_
   ·refine wc_quiet mixed (by kernel_rfl) q (km u (km u ?_))
    obtain⟨aw,S,T⟩:=ob O
    refine kv (rv_sidx underlying9 u u S) ?_
    obtain⟨ax,U,V⟩:=ob T
    refine kc co192 (fun _ _ W ay=>(ok_spec_l1Fold F) W.enter0 U) (km u (km u ?_))
    obtain⟨az,X,Y⟩:=ob V
    refine kv (rv_sidx underlying9 u u X) (kv (rv_bne u u) (km u (bt Y (fun a i=>?_) (fun a i=>?_))))
    ·refine kn a (kn a (kn a (kn a (kv (p_t u a u) (wq_nil ?_)))))
     rintro aA ⟨aa,ab,ac⟩
     cases oi i
     exact qd ⟨aa,u,ab,ac⟩
    refine kg a (rv_move u) (kg a (rv_move u) ?_)
    obtain⟨aB,ad,ae⟩:=ob i
    refine kg a (rv_sidx underlying9 u u ad) (kg a (rv_beq (b:=(0:UInt8)) u u) (kv (rv_pick_f u a u) (wq_nil ?_)))
    rintro aC ⟨af,ag,ah⟩
    cases oi ae
    exact qd ⟨af,u,ag,ah⟩
   rintro _ aD ⟨x,rfl,y,ai⟩
   refine qe_seq (wcc R u (fun aj k=>?_) (fun aj k=>?_))
   ·refine sr (lv (r_f u) (nq (wc_ret (qe_block_ret (qe_then_ret (qe_then_ret ?_))))))
    cases oi k
    cases m _ u
    refine qe_block_ret (qe_then_ret ?_)
    cases oi l
    refine qe_then_ret ?_
    cases oi c
    exact ey results136 ⟨x,u,y⟩
   refine wc_skip (qe_block (qe_seq (wc_region (mv u (lv (rv_add u u) (av u (wl_nil ?_)))))))
   cases oi k
   exact qd ⟨_,u,x,u,y,(s.trans ai),(w64_rng _)⟩
  refine wc_exit (qe_then_exit (qe_then_exit ?_))
  cases oi f
  cases m _ u
  refine qe_block_eq ?_
  cases oi l
  exact qd ⟨_,o,u,u,q,s⟩
 rintro _ w9 ⟨s5,K6,rfl,rfl,A,aH⟩
 have c:=elim_l c
 refine qr (mv u (lv (rv_slen underlying9 u) ?_))
 obtain⟨aI,ak,al⟩:=ob c
 refine lk co109 (ok_spec_l1In F A.enter0 (rng_nat B) (by decide :rng64 1) (by decide :rng64 12) ak) ?_
 rintro aJ aK ⟨am,rfl,an⟩
 have ao:=(A.c0 an).t0
 refine av u (nq (wc_ret ?_))
 cases oi al
 exact ey results136 ⟨am,u,ao⟩

theorem ok_spec_l2Ends {r:(List Str)}(hS:SH w K [] w K [])(hm:M.spec_l2Ends F=some r):
  Calls prog 236 #[] w fun e w'=>∃a_1 n_2 c_3 K',e= .returned (V3 a_1 n_2 c_3)∧SH w K [] w' K' [tail (V3 a_1 n_2 c_3) 9 1]∧SliceAt tStr K' a_1 n_2 c_3 r:=by
 rw [M.spec_l2Ends] at hm
 refine ci func236 u ntmps236 (sr (lv (r_n u) (nr (bw [[105,110,103],[101,100],[101,115],[108,121],[115]] underlying22 tf9 hS fun a f b i c d=>(av u (nq (wc_ret ?_)))))))
 cases oi hm
 exact ey results236 ⟨a,5,5,b,u,d,c⟩

theorem ok_spec_l2Once {q0:Str}{r:Str}(hS:SH w K [] w K [])(q:q0.length≤maxLen)(hm:M.spec_l2Once F q0=some r):
  Calls prog 193 #[sv q0] w fun e w'=>∃K',e= .returned (sv r)∧SH w K [] w' K' []∧r.length≤maxLen:=by
 rw [M.spec_l2Once] at hm
 refine ci func193 u ntmps193 (sr (lv (r_s u) (nsr (lv (r_0 u) (nq ?_)))))
 obtain⟨I,J,b⟩:=ob hm
 refine wc_cutg (IE I w K [] K [(0,sv q0)] []) ?_ ?_
 ·refine wc_block ?_
  obtain⟨au,O,s⟩:=ob J
  refine qw (fun (c:Int)=>IW w K [] K [(0,sv q0),(3,V6 c)] [] (rng64 c)) O ⟨K,u,hS,kr,d_0⟩ ?_
  rintro c _ aw ax R x ⟨ay,rfl,y,A,az⟩
  refine wc_seq (sr (mv u ?_))
  obtain⟨aA,S,T⟩:=ob R
  refine lk co236 (ok_spec_l2Ends F y.enter0 S) ?_
  rintro aB aC ⟨aD,aE,aF,U,rfl,d,V⟩
  have f:=(y.c0 d).t1
  refine lv (rv_len underlying22 u V) (lv (rv_lss u u) (nq (wcc T u (fun W i=>?_) (fun W i=>?_))))
  ·refine wc_skip (qs (wc_block (sr ?_)))
   obtain⟨aG,X,Y⟩:=ob i
   refine lk co236 (ok_spec_l2Ends F f.enter0 X) ?_
   rintro aH aI ⟨aJ,aK,aL,k,rfl,B,aa⟩
   have l:=(f.c0 B).t2
   refine mv u ?_
   obtain⟨C,ab,ac⟩:=ob Y
   refine li underlying22 tf9 aa ab fun ad ae aM af ag=>?_
   obtain⟨rfl,aN⟩:=af
   have ah:AtK _ ad ae [sv C]:=ag
   refine lv (rv_load1 tf9 u l (ah 0 _ u)) (av u (nr (mv u (lv (rv_slen underlying9 u) (mv u (lv (rv_slen underlying9 u) (lv (rv_sub u u) (av u (ns ?_)))))))))
   obtain⟨ai,aj,ak⟩:=ob ac
   refine wc_cutg (IV w K [] k [(0,sv q0),(3,V6 c),(5,V6 (w64 ((q0.length:Int)-(C.length:Int)))),(29,.bool ai)] []) ?_ ?_
   ·refine wc_region (mv u (lv (rv_geq u u) (mv u (bt aj (fun a m=>?_) (fun a m=>?_)))))
    ·refine lg a (rv_move u) (lg a (rv_move u) ?_)
     obtain⟨aO,al,am⟩:=ob m
     refine lg a (rv_ssl_l underlying9 u u al) (lg a (rv_move u) (lg a (rv_seql u u) (lv (rv_pick_t u a u) (wl_nil ?_))))
     cases oi am
     exact qd ⟨k,u,l.s,kr⟩
    iterate 5 refine lu a ?_
    refine lv (p_f u a u) (wl_nil ?_)
    cases oi m
    exact qd ⟨k,u,l.s,kr⟩
   rintro _ aP ⟨D,rfl,G,an⟩
   refine qe_seq (wcc ak u (fun ao o=>?_) (fun ao o=>?_))
   ·refine sr (mv u (mv u ?_))
    obtain⟨aQ,H,ap⟩:=ob o
    refine lv (rv_ssl_h underlying9 u u H) (av u (nq (wc_ret (qe_block_ret (qe_then_ret (qe_then_ret ?_))))))
    cases oi ap
    cases x _ u
    refine qe_block_ret (qe_then_ret ?_)
    cases oi s
    refine qe_then_ret ?_
    cases oi b
    exact ey results193 ⟨D,u,G,(len_sub q H)⟩
   refine wc_skip (qe_block (qe_seq (wc_region (mv u (lv (rv_add u u) (av u (wl_nil ?_)))))))
   cases oi o
   exact qd ⟨_,u,D,u,G,(((A.trans d.le).trans B.le).trans an),(w64_rng _)⟩
  refine wc_exit (qe_then_exit (qe_then_exit ?_))
  cases oi i
  cases x _ u
  refine qe_block_eq ?_
  cases oi s
  exact qd ⟨_,U,u,u,f.s,(A.trans d.le)⟩
 rintro _ w9 ⟨s5,K6,rfl,rfl,ar,aT⟩
 have b:=elim_l b
 refine qr (mv u (av u (nq (wc_ret ?_))))
 cases oi b
 exact ey results193 ⟨K6,u,ar,q⟩

theorem ok_spec_l2Stem {q0:Str}{r:Str}(hS:SH w K [] w K [])(o:q0.length≤maxLen)(hm:M.spec_l2Stem F q0=some r):
  Calls prog 137 #[sv q0] w fun e w'=>∃K',e= .returned (sv r)∧SH w K [] w' K' []∧r.length≤maxLen:=by
 rw [M.spec_l2Stem] at hm
 refine ci func137 u ntmps137 (sr (lv (r_s u) (ns ?_)))
 obtain⟨i,q,s⟩:=ob hm
 refine wc_cutg (IW w K [] K [(0,sv i)] [] (i.length≤maxLen)) ?_ ?_
 ·refine wc_block ?_
  obtain⟨W,x,y⟩:=ob q
  refine qw (fun (a:Str)=>IW w K [] K [(0,sv a)] [] (a.length≤maxLen)) x ⟨K,u,hS,kr,o⟩ ?_
  rintro a _ X Y A B ⟨aa,rfl,k,l,b⟩
  refine wc_seq (sr (mv u ?_))
  obtain⟨ab,C,D⟩:=ob A
  refine lk co193 (ok_spec_l2Once F k.enter0 b C) ?_
  rintro ac ad ⟨G,rfl,c,ae⟩
  have d:=(k.c0 c).t0
  refine mv u (lv (rv_sneq u u) (nq (wcc D u (fun H f=>?_) (fun H f=>?_))))
  ·refine wc_skip (qe_seq (wc_block (wc_region (mv u ?_))))
   obtain⟨af,I,J⟩:=ob f
   refine lk co193 (ok_spec_l2Once F d.enter0 b I) ?_
   rintro ag ah ⟨O,rfl,m,R⟩
   have S:=(d.c0 m).t0
   refine av u (nb ?_)
   cases oi J
   exact qd ⟨_,u,O,u,S,((l.trans c.le).trans m.le),R⟩
  refine wc_exit (qe_then_exit (qe_then_exit ?_))
  cases oi f
  cases B _ u
  refine qe_block_eq ?_
  cases oi y
  exact qd ⟨G,u,d,(l.trans c.le),b⟩
 rintro _ w7 ⟨T,rfl,U,aj,V⟩
 refine qr (mv u (av u (nq (wc_ret ?_))))
 cases oi s
 exact ey results137 ⟨T,u,U,V⟩
end Go.Proofs.YtpjefkdclnmlfaaGreat
