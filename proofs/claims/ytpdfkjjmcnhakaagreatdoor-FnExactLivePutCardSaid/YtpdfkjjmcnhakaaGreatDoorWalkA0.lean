/-
 Walks of the functions. Printed by gen.py.
-/
import Derived.Test.YtpdfkjjmcnhakaaGreatDoorFacts
set_option linter.unusedVariables false
set_option linter.unusedSectionVars false
set_option maxRecDepth 100000
namespace Go.Proofs.YtpdfkjjmcnhakaaGreatDoor
set_option maxHeartbeats 4000000
open Go Go.Fk Go.RowKit Tryz
variable (F:Nat){w:World}{K:KMap}{Z:List Nat}{g1 g2 g3:Nat}{A B C D G H I J O R S T:Option Addr}{a b c d f i k l m n o p q s v x y aa ab ac ad ae af ag:Nat}
variable [dr:Dr]

theorem ok_laws_szStringS {q0:List Str}{q1:Int}{r:Int}(hS:SH w K [] w K [])(m:SliceAt tStr K A a b q0)(ad:rng64 q1)(hm:M.laws_szStringS F q0 q1=some r):
  Calls prog 22 #[V3 A a b,V6 q1] w (R_i w K r):=by
 rw [M.laws_szStringS] at hm
 refine ci func22 u ntmps22 (sr (lv (r_0 u) (nr (mv u (mv u (lv (rv_len underlying22 u m) (lv (rv_sub u u) (av u (nsr ?_)))))))))
 refine mv u (lv (rv_lss u u) (nq (wc_cond u (fun o=>?_) (fun o=>?_))))
 ·have q:=cond_t o hm
  refine sr (lv (rv_assign (v:=V6 (-1)) u) (nq (rr ?_)))
  cases oi q
  exact ey results22 ⟨K,u,hS,(by decide :rng64 (-1))⟩
 have q:=cond_f o hm
 refine wc_skip (qs (sr (lv (r_0 u) (nq ?_))))
 obtain⟨D,G,d⟩:=ob q
 refine wc_cutg (fun E' w'=>∃f i,D= .inl f∧E'=[(1,V6 f)]∧SH w K [] w' i []∧KLe K i∧rng64 f) ?_ ?_
 ·refine wc_block ?_
  obtain⟨ae,H,B⟩:=ob G
  refine qw (fun (c:Int×Int)=>IW w K [] K [(0,V3 A a b),(1,V6 c.1),(5,V6 c.2)] [] (rng64 c.1∧rng64 c.2)) H ⟨K,u,hS,kr,(w64_rng _),d_0⟩ ?_
  rintro c _ af ag I C ⟨s,rfl,k,l,J,ah⟩
  refine wc_seq (sr (mv u (mv u (lv (rv_len underlying22 u (m.mono l)) (lv (rv_lss u u) (nq (wcc I u (fun O x=>?_) (fun O x=>?_))))))))
  ·refine wc_skip (qs (wc_block (sr (mv u (mv u (mv u ?_))))))
   obtain⟨R,S,T⟩:=ob x
   refine li underlying22 tf9 (m.mono l) S fun U V ai W X=>?_
   obtain⟨rfl,aj⟩:=W
   have Y:AtK _ U V [sv R]:=X
   refine lv (rv_load1 tf9 u k (Y 0 _ u)) (lv (rv_slen underlying9 u) (lv (rv_sub u u) (av u (nr (mv u (lv (rv_lss u u) (nq (wcc T u (fun aa y=>?_) (fun aa y=>?_)))))))))
   ·refine sr (lv (rv_assign (v:=V6 (-1)) u) (nq (wc_ret (qe_block_ret (qe_then_ret (qe_then_ret ?_))))))
    cases oi y
    cases C _ u
    refine qe_block_ret (qe_then_ret ?_)
    cases oi B
    refine qe_then_ret ?_
    cases oi d
    exact ey results22 ⟨s,u,k,(by decide :rng64 (-1))⟩
   refine wc_skip (qe_block (qe_seq (wc_region (mv u (lv (rv_add u u) (av u (wl_nil ?_)))))))
   cases oi y
   exact qd ⟨_,u,s,u,k,l,(w64_rng _),(w64_rng _)⟩
  refine wc_exit (qe_then_exit (qe_then_exit ?_))
  cases oi x
  cases C _ u
  refine qe_block_eq ?_
  cases oi B
  exact qd ⟨_,s,u,u,k,l,J⟩
 rintro _ ak ⟨f,i,rfl,rfl,ab,al,ac⟩
 have d:=elim_l d
 refine qr (mv u (av u (nq (wc_ret ?_))))
 cases oi d
 exact ey results22 ⟨i,u,ab,ac⟩

theorem ok_laws_szSyn {q0:GSyn}{q1:Int}{r:Int}(hS:SH w K [] w K [])(l:SliceAt tStr K A a b q0.From)(D:q0.To.length≤maxLen)(m:rng64 q1)(hm:M.laws_szSyn F q0 q1=some r):
  Calls prog 61 #[.agg #[V3 A a b,sv q0.To],V6 q1] w (R_i w K r):=by
 rw [M.laws_szSyn] at hm
 refine ci func61 u ntmps61 (sr (bx u hS fun o G q=>?_))
 have d:SH _ _ _ _ _ [obj o [V3 A a b,sv q0.To] 122]:=q
 refine lv (r_0 u) (nr (fl ff122_0 u tf22 m0 d u (mv u ?_)))
 obtain⟨H,s,x⟩:=ob hm
 refine lk co22 (ok_laws_szStringS F d.enter0 l m s) ?_
 rintro I J ⟨f,rfl,y,O⟩
 have c:=(d.c0 y).t1
 refine av u (nsr (mv u (lv (rv_lss u u) (nq (wcc x u (fun B i=>?_) (fun B i=>?_))))))
 ·refine sr (lv (rv_assign (v:=V6 (-1)) u) (nq (rr ?_)))
  cases oi i
  exact ey results61 ⟨f,u,c.s,(by decide :rng64 (-1))⟩
 refine wc_skip (qr (mv u (fl ff122_1 u tf9 m0 c u (lv (rv_slen underlying9 u) (lv (rv_sub u u) (av u (nsr (mv u (lv (rv_lss u u) ?_)))))))))
 refine nq (wcc i u (fun C k=>?_) (fun C k=>?_))
 ·refine sr (lv (rv_assign (v:=V6 (-1)) u) (nq (rr ?_)))
  cases oi k
  exact ey results61 ⟨f,u,c.s,(by decide :rng64 (-1))⟩
 refine wc_skip (qr (mv u (av u (nq (wc_ret ?_)))))
 cases oi k
 exact ey results61 ⟨f,u,c.s,(w64_rng _)⟩

theorem ok_laws_szSynS {q0:List GSyn}{q1:Int}{r:Int}(hS:SH w K [] w K [])(m:SliceAt tGSyn K A a b q0)(ao:rng64 q1)(hm:M.laws_szSynS F q0 q1=some r):
  Calls prog 23 #[V3 A a b,V6 q1] w (R_i w K r):=by
 rw [M.laws_szSynS] at hm
 refine ci func23 u ntmps23 (sr (lv (r_0 u) (nr (mv u (mv u (lv (rv_len underlying23 u m) (lv (rv_sub u u) (av u (nsr ?_)))))))))
 refine mv u (lv (rv_lss u u) (nq (wc_cond u (fun o=>?_) (fun o=>?_))))
 ·have q:=cond_t o hm
  refine sr (lv (rv_assign (v:=V6 (-1)) u) (nq (rr ?_)))
  cases oi q
  exact ey results23 ⟨K,u,hS,(by decide :rng64 (-1))⟩
 have q:=cond_f o hm
 refine wc_skip (qs (sr (lv (r_0 u) (nq ?_))))
 obtain⟨I,J,d⟩:=ob q
 refine wc_cutg (fun E' w'=>∃f i,I= .inl f∧E'=[(1,V6 f)]∧SH w K [] w' i []∧KLe K i∧rng64 f) ?_ ?_
 ·refine wc_block ?_
  obtain⟨ap,O,y⟩:=ob J
  refine qw (fun (c:Int×Int)=>IW w K [] K [(0,V3 A a b),(1,V6 c.1),(5,V6 c.2)] [] (rng64 c.1∧rng64 c.2)) O ⟨K,u,hS,kr,(w64_rng _),d_0⟩ ?_
  rintro c _ aq ar R B ⟨S,rfl,k,l,C,au⟩
  refine wc_seq (sr (mv u (mv u (lv (rv_len underlying23 u (m.mono l)) (lv (rv_lss u u) (nq (wcc R u (fun T s=>?_) (fun T s=>?_))))))))
  ·refine wc_skip (qs (wc_block (sr (mv u (mv u ?_)))))
   obtain⟨U,V,W⟩:=ob s
   refine li underlying23 tf122 (m.mono l) V fun X Y aw aa ab=>?_
   obtain⟨ac,ad,ae,rfl,af,ag⟩:=aa
   have ah:AtK _ X Y [V3 ac ad ae,sv U.To]:=ab
   refine lv (rv_loadS tf122 u k ah u) (mv u ?_)
   obtain⟨ax,ai,aj⟩:=ob W
   refine lk co61 (ok_laws_szSyn F k.enter0 af ag C ai) ?_
   rintro ay az ⟨D,rfl,G,ak⟩
   have H:=(k.c0 G).t0
   refine av u (nr (mv u (lv (rv_lss u u) (nq (wcc aj u (fun al x=>?_) (fun al x=>?_))))))
   ·refine sr (lv (rv_assign (v:=V6 (-1)) u) (nq (wc_ret (qe_block_ret (qe_then_ret (qe_then_ret ?_))))))
    cases oi x
    cases B _ u
    refine qe_block_ret (qe_then_ret ?_)
    cases oi y
    refine qe_then_ret ?_
    cases oi d
    exact ey results23 ⟨D,u,H,(by decide :rng64 (-1))⟩
   refine wc_skip (qe_block (qe_seq (wc_region (mv u (lv (rv_add u u) (av u (wl_nil ?_)))))))
   cases oi x
   exact qd ⟨_,u,D,u,H,(l.trans G.le),ak,(w64_rng _)⟩
  refine wc_exit (qe_then_exit (qe_then_exit ?_))
  cases oi s
  cases B _ u
  refine qe_block_eq ?_
  cases oi y
  exact qd ⟨_,S,u,u,k,l,C⟩
 rintro _ aA ⟨f,i,rfl,rfl,am,aB,an⟩
 have d:=elim_l d
 refine qr (mv u (av u (nq (wc_ret ?_))))
 cases oi d
 exact ey results23 ⟨i,u,am,an⟩

theorem ok_laws_szConf {q0:GConf}{q1:Int}{r:Int}(hS:SH w K [] w K [])(s:SliceAt tStr K A a b q0.Stops)(x:SliceAt tGSyn K B c d q0.Syns)(y:rng64 q1)(hm:M.laws_szConf F q0 q1=some r):
  Calls prog 5 #[.agg #[V3 A a b,V3 B c d],V6 q1] w (R_i w K r):=by
 rw [M.laws_szConf] at hm
 refine ci func5 u ntmps5 (sr (bx u hS fun C W D=>?_))
 have i:SH _ _ _ _ _ [obj C [V3 A a b,V3 B c d] 25]:=D
 refine lv (r_0 u) (nr (fl ff25_0 u tf22 m0 i u (mv u ?_)))
 obtain⟨X,G,H⟩:=ob hm
 refine lk co22 (ok_laws_szStringS F i.enter0 s y G) ?_
 rintro Y aa ⟨I,rfl,m,J⟩
 have f:=(i.c0 m).t1
 refine av u (nsr (mv u (lv (rv_lss u u) (nq (wcc H u (fun O k=>?_) (fun O k=>?_))))))
 ·refine sr (lv (rv_assign (v:=V6 (-1)) u) (nq (rr ?_)))
  cases oi k
  exact ey results5 ⟨I,u,f.s,(by decide :rng64 (-1))⟩
 refine wc_skip (qr (fl ff25_1 u tf23 m0 f u (mv u ?_)))
 obtain⟨ab,R,S⟩:=ob k
 refine lk co23 (ok_laws_szSynS F f.enter0 (x.mono m.le) J R) ?_
 rintro ac ad ⟨o,rfl,T,U⟩
 have q:=(f.c0 T).t1
 refine av u (nsr (mv u (lv (rv_lss u u) (nq (wcc S u (fun V l=>?_) (fun V l=>?_))))))
 ·refine sr (lv (rv_assign (v:=V6 (-1)) u) (nq (rr ?_)))
  cases oi l
  exact ey results5 ⟨o,u,q.s,(by decide :rng64 (-1))⟩
 refine wc_skip (qr (mv u (av u (nq (wc_ret ?_)))))
 cases oi l
 exact ey results5 ⟨o,u,q.s,U⟩

theorem ok_laws_szField {q0:GField}{q1:Int}{r:Int}(hS:SH w K [] w K [])(q:q0.Name.length≤maxLen)(s:q0.Text.length≤maxLen)(x:rng64 q1)(hm:M.laws_szField F q0 q1=some r):
  Calls prog 199 #[.agg #[sv q0.Name,sv q0.Text],V6 q1] w (R_i w K r):=by
 rw [M.laws_szField] at hm
 refine ci func199 u ntmps199 (sr (bx u hS fun i y k=>?_))
 have a:SH _ _ _ _ _ [obj i [sv q0.Name,sv q0.Text] 268]:=k
 refine lv (r_0 u) (nr (mv u (fl ff268_0 u tf9 m0 a u (lv (rv_slen underlying9 u) (lv (rv_sub u u) (av u (nsr (mv u (lv (rv_lss u u) ?_)))))))))
 refine nq (wc_cond u (fun b=>?_) (fun b=>?_))
 ·have c:=cond_t b hm
  refine sr (lv (rv_assign (v:=V6 (-1)) u) (nq (rr ?_)))
  cases oi c
  exact ey results199 ⟨K,u,a.s,(by decide :rng64 (-1))⟩
 have c:=cond_f b hm
 refine wc_skip (qr (mv u (fl ff268_1 u tf9 m0 a u (lv (rv_slen underlying9 u) (lv (rv_sub u u) ?_)))))
 obtain⟨A,l,m⟩:=ob c
 have f:=oi l
 refine lv (rv_as u (congrArg (Value.int .i64) f)) (nsr (mv u (lv (rv_lss u u) (nq (wcc m u (fun o d=>?_) (fun o d=>?_))))))
 ·refine sr (lv (rv_assign (v:=V6 (-1)) u) (nq (rr ?_)))
  cases oi d
  exact ey results199 ⟨K,u,a.s,(by decide :rng64 (-1))⟩
 refine wc_skip (qr (mv u (av u (nq (wc_ret ?_)))))
 cases oi d
 exact ey results199 ⟨K,u,a.s,(cast_rng f (w64_rng _))⟩

theorem ok_laws_szFieldS {q0:List GField}{q1:Int}{r:Int}(hS:SH w K [] w K [])(m:SliceAt tGField K A a b q0)(al:rng64 q1)(hm:M.laws_szFieldS F q0 q1=some r):
  Calls prog 157 #[V3 A a b,V6 q1] w (R_i w K r):=by
 rw [M.laws_szFieldS] at hm
 refine ci func157 u ntmps157 (sr (lv (r_0 u) (nr (mv u (mv u (lv (rv_len underlying177 u m) (lv (rv_sub u u) (av u (nsr ?_)))))))))
 refine mv u (lv (rv_lss u u) (nq (wc_cond u (fun o=>?_) (fun o=>?_))))
 ·have q:=cond_t o hm
  refine sr (lv (rv_assign (v:=V6 (-1)) u) (nq (rr ?_)))
  cases oi q
  exact ey results157 ⟨K,u,hS,(by decide :rng64 (-1))⟩
 have q:=cond_f o hm
 refine wc_skip (qs (sr (lv (r_0 u) (nq ?_))))
 obtain⟨J,O,d⟩:=ob q
 refine wc_cutg (fun E' w'=>∃f i,J= .inl f∧E'=[(1,V6 f)]∧SH w K [] w' i []∧KLe K i∧rng64 f) ?_ ?_
 ·refine wc_block ?_
  obtain⟨am,R,y⟩:=ob O
  refine qw (fun (c:Int×Int)=>IW w K [] K [(0,V3 A a b),(1,V6 c.1),(5,V6 c.2)] [] (rng64 c.1∧rng64 c.2)) R ⟨K,u,hS,kr,(w64_rng _),d_0⟩ ?_
  rintro c _ an ao S B ⟨T,rfl,k,l,C,ap⟩
  refine wc_seq (sr (mv u (mv u (lv (rv_len underlying177 u (m.mono l)) (lv (rv_lss u u) (nq (wcc S u (fun U s=>?_) (fun U s=>?_))))))))
  ·refine wc_skip (qs (wc_block (sr (mv u (mv u ?_)))))
   obtain⟨D,V,W⟩:=ob s
   refine li underlying177 tf268 (m.mono l) V fun X Y aq aa ab=>?_
   obtain⟨rfl,ac,ad⟩:=aa
   have ae:AtK _ X Y [sv D.Name,sv D.Text]:=ab
   refine lv (rv_loadS tf268 u k ae u) (mv u ?_)
   obtain⟨ar,af,ag⟩:=ob W
   refine lk co199 (ok_laws_szField F k.enter0 ac ad C af) ?_
   rintro au aw ⟨G,rfl,H,ah⟩
   have I:=(k.c0 H).t0
   refine av u (nr (mv u (lv (rv_lss u u) (nq (wcc ag u (fun ai x=>?_) (fun ai x=>?_))))))
   ·refine sr (lv (rv_assign (v:=V6 (-1)) u) (nq (wc_ret (qe_block_ret (qe_then_ret (qe_then_ret ?_))))))
    cases oi x
    cases B _ u
    refine qe_block_ret (qe_then_ret ?_)
    cases oi y
    refine qe_then_ret ?_
    cases oi d
    exact ey results157 ⟨G,u,I,(by decide :rng64 (-1))⟩
   refine wc_skip (qe_block (qe_seq (wc_region (mv u (lv (rv_add u u) (av u (wl_nil ?_)))))))
   cases oi x
   exact qd ⟨_,u,G,u,I,(l.trans H.le),ah,(w64_rng _)⟩
  refine wc_exit (qe_then_exit (qe_then_exit ?_))
  cases oi s
  cases B _ u
  refine qe_block_eq ?_
  cases oi y
  exact qd ⟨_,T,u,u,k,l,C⟩
 rintro _ ax ⟨f,i,rfl,rfl,aj,ay,ak⟩
 have d:=elim_l d
 refine qr (mv u (av u (nq (wc_ret ?_))))
 cases oi d
 exact ey results157 ⟨i,u,aj,ak⟩

theorem ok_laws_szAttr {q0:GAttr}{q1:Int}{r:Int}(hS:SH w K [] w K [])(i:q0.Name.length≤maxLen)(k:rng64 q0.Num)(l:rng64 q1)(hm:M.laws_szAttr F q0 q1=some r):
  Calls prog 200 #[.agg #[sv q0.Name,V6 q0.Num],V6 q1] w (R_i w K r):=by
 rw [M.laws_szAttr] at hm
 refine ci func200 u ntmps200 (sr (bx u hS fun d m f=>?_))
 have a:SH _ _ _ _ _ [obj d [sv q0.Name,V6 q0.Num] 270]:=f
 refine lv (r_0 u) (nr (mv u (fl ff270_0 u tf9 m0 a u (lv (rv_slen underlying9 u) (lv (rv_sub u u) (av u (nsr (mv u (lv (rv_lss u u) ?_)))))))))
 refine nq (wc_cond u (fun b=>?_) (fun b=>?_))
 ·have c:=cond_t b hm
  refine sr (lv (rv_assign (v:=V6 (-1)) u) (nq (rr ?_)))
  cases oi c
  exact ey results200 ⟨K,u,a.s,(by decide :rng64 (-1))⟩
 have c:=cond_f b hm
 refine wc_skip (qr (mv u (av u (nq (wc_ret ?_)))))
 cases oi c
 exact ey results200 ⟨K,u,a.s,(w64_rng _)⟩

theorem ok_laws_szAttrS {q0:List GAttr}{q1:Int}{r:Int}(hS:SH w K [] w K [])(m:SliceAt tGAttr K A a b q0)(al:rng64 q1)(hm:M.laws_szAttrS F q0 q1=some r):
  Calls prog 158 #[V3 A a b,V6 q1] w (R_i w K r):=by
 rw [M.laws_szAttrS] at hm
 refine ci func158 u ntmps158 (sr (lv (r_0 u) (nr (mv u (mv u (lv (rv_len underlying178 u m) (lv (rv_sub u u) (av u (nsr ?_)))))))))
 refine mv u (lv (rv_lss u u) (nq (wc_cond u (fun o=>?_) (fun o=>?_))))
 ·have q:=cond_t o hm
  refine sr (lv (rv_assign (v:=V6 (-1)) u) (nq (rr ?_)))
  cases oi q
  exact ey results158 ⟨K,u,hS,(by decide :rng64 (-1))⟩
 have q:=cond_f o hm
 refine wc_skip (qs (sr (lv (r_0 u) (nq ?_))))
 obtain⟨J,O,d⟩:=ob q
 refine wc_cutg (fun E' w'=>∃f i,J= .inl f∧E'=[(1,V6 f)]∧SH w K [] w' i []∧KLe K i∧rng64 f) ?_ ?_
 ·refine wc_block ?_
  obtain⟨am,R,y⟩:=ob O
  refine qw (fun (c:Int×Int)=>IW w K [] K [(0,V3 A a b),(1,V6 c.1),(5,V6 c.2)] [] (rng64 c.1∧rng64 c.2)) R ⟨K,u,hS,kr,(w64_rng _),d_0⟩ ?_
  rintro c _ an ao S B ⟨T,rfl,k,l,C,ap⟩
  refine wc_seq (sr (mv u (mv u (lv (rv_len underlying178 u (m.mono l)) (lv (rv_lss u u) (nq (wcc S u (fun U s=>?_) (fun U s=>?_))))))))
  ·refine wc_skip (qs (wc_block (sr (mv u (mv u ?_)))))
   obtain⟨D,V,W⟩:=ob s
   refine li underlying178 tf270 (m.mono l) V fun X Y aq aa ab=>?_
   obtain⟨rfl,ac,ad⟩:=aa
   have ae:AtK _ X Y [sv D.Name,V6 D.Num]:=ab
   refine lv (rv_loadS tf270 u k ae u) (mv u ?_)
   obtain⟨ar,af,ag⟩:=ob W
   refine lk co200 (ok_laws_szAttr F k.enter0 ac ad C af) ?_
   rintro au aw ⟨G,rfl,H,ah⟩
   have I:=(k.c0 H).t0
   refine av u (nr (mv u (lv (rv_lss u u) (nq (wcc ag u (fun ai x=>?_) (fun ai x=>?_))))))
   ·refine sr (lv (rv_assign (v:=V6 (-1)) u) (nq (wc_ret (qe_block_ret (qe_then_ret (qe_then_ret ?_))))))
    cases oi x
    cases B _ u
    refine qe_block_ret (qe_then_ret ?_)
    cases oi y
    refine qe_then_ret ?_
    cases oi d
    exact ey results158 ⟨G,u,I,(by decide :rng64 (-1))⟩
   refine wc_skip (qe_block (qe_seq (wc_region (mv u (lv (rv_add u u) (av u (wl_nil ?_)))))))
   cases oi x
   exact qd ⟨_,u,G,u,I,(l.trans H.le),ah,(w64_rng _)⟩
  refine wc_exit (qe_then_exit (qe_then_exit ?_))
  cases oi s
  cases B _ u
  refine qe_block_eq ?_
  cases oi y
  exact qd ⟨_,T,u,u,k,l,C⟩
 rintro _ ax ⟨f,i,rfl,rfl,aj,ay,ak⟩
 have d:=elim_l d
 refine qr (mv u (av u (nq (wc_ret ?_))))
 cases oi d
 exact ey results158 ⟨i,u,aj,ak⟩

theorem ok_laws_szDoc {q0:GDoc}{q1:Int}{r:Int}(hS:SH w K [] w K [])(W:rng64 q0.Id)(s:SliceAt tGField K A a b q0.Fields)(x:SliceAt tGAttr K B c d q0.Nums)(y:rng64 q1)(hm:M.laws_szDoc F q0 q1=some r):
  Calls prog 112 #[.agg #[V6 q0.Id,V3 A a b,V3 B c d],V6 q1] w (R_i w K r):=by
 rw [M.laws_szDoc] at hm
 refine ci func112 u ntmps112 (sr (bx u hS fun C X D=>?_))
 have i:SH _ _ _ _ _ [obj C [V6 q0.Id,V3 A a b,V3 B c d] 180]:=D
 refine lv (r_0 u) (nr (fl ff180_1 u tf177 m0 i u (mv u ?_)))
 obtain⟨Y,G,H⟩:=ob hm
 refine lk co157 (ok_laws_szFieldS F i.enter0 s y G) ?_
 rintro aa ab ⟨I,rfl,m,J⟩
 have f:=(i.c0 m).t1
 refine av u (nsr (mv u (lv (rv_lss u u) (nq (wcc H u (fun O k=>?_) (fun O k=>?_))))))
 ·refine sr (lv (rv_assign (v:=V6 (-1)) u) (nq (rr ?_)))
  cases oi k
  exact ey results112 ⟨I,u,f.s,(by decide :rng64 (-1))⟩
 refine wc_skip (qr (fl ff180_2 u tf178 m0 f u (mv u ?_)))
 obtain⟨ac,R,S⟩:=ob k
 refine lk co158 (ok_laws_szAttrS F f.enter0 (x.mono m.le) J R) ?_
 rintro ad ae ⟨o,rfl,T,U⟩
 have q:=(f.c0 T).t1
 refine av u (nsr (mv u (lv (rv_lss u u) (nq (wcc S u (fun V l=>?_) (fun V l=>?_))))))
 ·refine sr (lv (rv_assign (v:=V6 (-1)) u) (nq (rr ?_)))
  cases oi l
  exact ey results112 ⟨o,u,q.s,(by decide :rng64 (-1))⟩
 refine wc_skip (qr (mv u (av u (nq (wc_ret ?_)))))
 cases oi l
 exact ey results112 ⟨o,u,q.s,U⟩

theorem ok_laws_szDocS {q0:List GDoc}{q1:Int}{r:Int}(hS:SH w K [] w K [])(m:SliceAt tGDoc K A a b q0)(au:rng64 q1)(hm:M.laws_szDocS F q0 q1=some r):
  Calls prog 62 #[V3 A a b,V6 q1] w (R_i w K r):=by
 rw [M.laws_szDocS] at hm
 refine ci func62 u ntmps62 (sr (lv (r_0 u) (nr (mv u (mv u (lv (rv_len underlying26 u m) (lv (rv_sub u u) (av u (nsr ?_)))))))))
 refine mv u (lv (rv_lss u u) (nq (wc_cond u (fun o=>?_) (fun o=>?_))))
 ·have q:=cond_t o hm
  refine sr (lv (rv_assign (v:=V6 (-1)) u) (nq (rr ?_)))
  cases oi q
  exact ey results62 ⟨K,u,hS,(by decide :rng64 (-1))⟩
 have q:=cond_f o hm
 refine wc_skip (qs (sr (lv (r_0 u) (nq ?_))))
 obtain⟨I,J,d⟩:=ob q
 refine wc_cutg (fun E' w'=>∃f i,I= .inl f∧E'=[(1,V6 f)]∧SH w K [] w' i []∧KLe K i∧rng64 f) ?_ ?_
 ·refine wc_block ?_
  obtain⟨aw,O,y⟩:=ob J
  refine qw (fun (c:Int×Int)=>IW w K [] K [(0,V3 A a b),(1,V6 c.1),(5,V6 c.2)] [] (rng64 c.1∧rng64 c.2)) O ⟨K,u,hS,kr,(w64_rng _),d_0⟩ ?_
  rintro c _ ax ay R B ⟨S,rfl,k,l,C,az⟩
  refine wc_seq (sr (mv u (mv u (lv (rv_len underlying26 u (m.mono l)) (lv (rv_lss u u) (nq (wcc R u (fun T s=>?_) (fun T s=>?_))))))))
  ·refine wc_skip (qs (wc_block (sr (mv u (mv u ?_)))))
   obtain⟨U,V,W⟩:=ob s
   refine li underlying26 tf180 (m.mono l) V fun X Y aA aa ab=>?_
   obtain⟨ac,ad,ae,af,ag,ah,rfl,ai,aj,ak⟩:=aa
   have al:AtK _ X Y [V6 U.Id,V3 ac ad ae,V3 af ag ah]:=ab
   refine lv (rv_loadS tf180 u k al u) (mv u ?_)
   obtain⟨aB,am,an⟩:=ob W
   refine lk co112 (ok_laws_szDoc F k.enter0 ai aj ak C am) ?_
   rintro aC aD ⟨D,rfl,G,ao⟩
   have H:=(k.c0 G).t0
   refine av u (nr (mv u (lv (rv_lss u u) (nq (wcc an u (fun ap x=>?_) (fun ap x=>?_))))))
   ·refine sr (lv (rv_assign (v:=V6 (-1)) u) (nq (wc_ret (qe_block_ret (qe_then_ret (qe_then_ret ?_))))))
    cases oi x
    cases B _ u
    refine qe_block_ret (qe_then_ret ?_)
    cases oi y
    refine qe_then_ret ?_
    cases oi d
    exact ey results62 ⟨D,u,H,(by decide :rng64 (-1))⟩
   refine wc_skip (qe_block (qe_seq (wc_region (mv u (lv (rv_add u u) (av u (wl_nil ?_)))))))
   cases oi x
   exact qd ⟨_,u,D,u,H,(l.trans G.le),ao,(w64_rng _)⟩
  refine wc_exit (qe_then_exit (qe_then_exit ?_))
  cases oi s
  cases B _ u
  refine qe_block_eq ?_
  cases oi y
  exact qd ⟨_,S,u,u,k,l,C⟩
 rintro _ aE ⟨f,i,rfl,rfl,aq,aF,ar⟩
 have d:=elim_l d
 refine qr (mv u (av u (nq (wc_ret ?_))))
 cases oi d
 exact ey results62 ⟨i,u,aq,ar⟩

theorem ok_laws_szIntS {q0:List Int}{q1:Int}{r:Int}(hS:SH w K [] w K [])(f:SliceAt tInt K A a b q0)(i:rng64 q1)(hm:M.laws_szIntS F q0 q1=some r):
  Calls prog 25 #[V3 A a b,V6 q1] w (R_i w K r):=by
 rw [M.laws_szIntS] at hm
 refine ci func25 u ntmps25 (sr (lv (r_0 u) (nr (mv u (mv u (lv (rv_len underlying30 u f) (lv (rv_sub u u) (av u (nsr ?_)))))))))
 refine mv u (lv (rv_lss u u) (nq (wc_cond u (fun c=>?_) (fun c=>?_))))
 ·have d:=cond_t c hm
  refine sr (lv (rv_assign (v:=V6 (-1)) u) (nq (rr ?_)))
  cases oi d
  exact ey results25 ⟨K,u,hS,(by decide :rng64 (-1))⟩
 have d:=cond_f c hm
 refine wc_skip (qr (mv u (av u (nq (wc_ret ?_)))))
 cases oi d
 exact ey results25 ⟨K,u,hS,(w64_rng _)⟩

theorem ok_laws_szPost {q0:GPost}{q1:Int}{r:Int}(hS:SH w K [] w K [])(C:rng64 q0.Doc)(k:SliceAt tInt K A a b q0.At)(l:rng64 q1)(hm:M.laws_szPost F q0 q1=some r):
  Calls prog 201 #[.agg #[V6 q0.Doc,V3 A a b],V6 q1] w (R_i w K r):=by
 rw [M.laws_szPost] at hm
 refine ci func201 u ntmps201 (sr (bx u hS fun m D o=>?_))
 have c:SH _ _ _ _ _ [obj m [V6 q0.Doc,V3 A a b] 272]:=o
 refine lv (r_0 u) (nr (fl ff272_1 u tf30 m0 c u (mv u ?_)))
 obtain⟨G,q,s⟩:=ob hm
 refine lk co25 (ok_laws_szIntS F c.enter0 k l q) ?_
 rintro H I ⟨f,rfl,x,y⟩
 have i:=(c.c0 x).t1
 refine av u (nsr (mv u (lv (rv_lss u u) (nq (wcc s u (fun B d=>?_) (fun B d=>?_))))))
 ·refine sr (lv (rv_assign (v:=V6 (-1)) u) (nq (rr ?_)))
  cases oi d
  exact ey results201 ⟨f,u,i.s,(by decide :rng64 (-1))⟩
 refine wc_skip (qr (mv u (av u (nq (wc_ret ?_)))))
 cases oi d
 exact ey results201 ⟨f,u,i.s,y⟩

theorem ok_laws_szPostS {q0:List GPost}{q1:Int}{r:Int}(hS:SH w K [] w K [])(m:SliceAt tGPost K A a b q0)(ao:rng64 q1)(hm:M.laws_szPostS F q0 q1=some r):
  Calls prog 159 #[V3 A a b,V6 q1] w (R_i w K r):=by
 rw [M.laws_szPostS] at hm
 refine ci func159 u ntmps159 (sr (lv (r_0 u) (nr (mv u (mv u (lv (rv_len underlying182 u m) (lv (rv_sub u u) (av u (nsr ?_)))))))))
 refine mv u (lv (rv_lss u u) (nq (wc_cond u (fun o=>?_) (fun o=>?_))))
 ·have q:=cond_t o hm
  refine sr (lv (rv_assign (v:=V6 (-1)) u) (nq (rr ?_)))
  cases oi q
  exact ey results159 ⟨K,u,hS,(by decide :rng64 (-1))⟩
 have q:=cond_f o hm
 refine wc_skip (qs (sr (lv (r_0 u) (nq ?_))))
 obtain⟨I,J,d⟩:=ob q
 refine wc_cutg (fun E' w'=>∃f i,I= .inl f∧E'=[(1,V6 f)]∧SH w K [] w' i []∧KLe K i∧rng64 f) ?_ ?_
 ·refine wc_block ?_
  obtain⟨ap,O,y⟩:=ob J
  refine qw (fun (c:Int×Int)=>IW w K [] K [(0,V3 A a b),(1,V6 c.1),(5,V6 c.2)] [] (rng64 c.1∧rng64 c.2)) O ⟨K,u,hS,kr,(w64_rng _),d_0⟩ ?_
  rintro c _ aq ar R B ⟨S,rfl,k,l,C,au⟩
  refine wc_seq (sr (mv u (mv u (lv (rv_len underlying182 u (m.mono l)) (lv (rv_lss u u) (nq (wcc R u (fun T s=>?_) (fun T s=>?_))))))))
  ·refine wc_skip (qs (wc_block (sr (mv u (mv u ?_)))))
   obtain⟨U,V,W⟩:=ob s
   refine li underlying182 tf272 (m.mono l) V fun X Y aw aa ab=>?_
   obtain⟨ac,ad,ae,rfl,af,ag⟩:=aa
   have ah:AtK _ X Y [V6 U.Doc,V3 ac ad ae]:=ab
   refine lv (rv_loadS tf272 u k ah u) (mv u ?_)
   obtain⟨ax,ai,aj⟩:=ob W
   refine lk co201 (ok_laws_szPost F k.enter0 af ag C ai) ?_
   rintro ay az ⟨D,rfl,G,ak⟩
   have H:=(k.c0 G).t0
   refine av u (nr (mv u (lv (rv_lss u u) (nq (wcc aj u (fun al x=>?_) (fun al x=>?_))))))
   ·refine sr (lv (rv_assign (v:=V6 (-1)) u) (nq (wc_ret (qe_block_ret (qe_then_ret (qe_then_ret ?_))))))
    cases oi x
    cases B _ u
    refine qe_block_ret (qe_then_ret ?_)
    cases oi y
    refine qe_then_ret ?_
    cases oi d
    exact ey results159 ⟨D,u,H,(by decide :rng64 (-1))⟩
   refine wc_skip (qe_block (qe_seq (wc_region (mv u (lv (rv_add u u) (av u (wl_nil ?_)))))))
   cases oi x
   exact qd ⟨_,u,D,u,H,(l.trans G.le),ak,(w64_rng _)⟩
  refine wc_exit (qe_then_exit (qe_then_exit ?_))
  cases oi s
  cases B _ u
  refine qe_block_eq ?_
  cases oi y
  exact qd ⟨_,S,u,u,k,l,C⟩
 rintro _ aA ⟨f,i,rfl,rfl,am,aB,an⟩
 have d:=elim_l d
 refine qr (mv u (av u (nq (wc_ret ?_))))
 cases oi d
 exact ey results159 ⟨i,u,am,an⟩

theorem ok_laws_szEntry {q0:GEntry}{q1:Int}{r:Int}(hS:SH w K [] w K [])(O:q0.Field.length≤maxLen)(R:q0.Term.length≤maxLen)(q:SliceAt tGPost K A a b q0.Posts)(S:rng64 q1)(hm:M.laws_szEntry F q0 q1=some r):
  Calls prog 113 #[.agg #[sv q0.Field,sv q0.Term,V3 A a b],V6 q1] w (R_i w K r):=by
 rw [M.laws_szEntry] at hm
 refine ci func113 u ntmps113 (sr (bx u hS fun s T x=>?_))
 have c:SH _ _ _ _ _ [obj s [sv q0.Field,sv q0.Term,V3 A a b] 184]:=x
 refine lv (r_0 u) (nr (mv u (fl ff184_0 u tf9 m0 c u (lv (rv_slen underlying9 u) (lv (rv_sub u u) (av u (nsr (mv u (lv (rv_lss u u) ?_)))))))))
 refine nq (wc_cond u (fun d=>?_) (fun d=>?_))
 ·have f:=cond_t d hm
  refine sr (lv (rv_assign (v:=V6 (-1)) u) (nq (rr ?_)))
  cases oi f
  exact ey results113 ⟨K,u,c.s,(by decide :rng64 (-1))⟩
 have f:=cond_f d hm
 refine wc_skip (qr (mv u (fl ff184_1 u tf9 m0 c u (lv (rv_slen underlying9 u) (lv (rv_sub u u) ?_)))))
 obtain⟨U,y,B⟩:=ob f
 have l:=oi y
 refine lv (rv_as u (congrArg (Value.int .i64) l)) (nsr (mv u (lv (rv_lss u u) (nq (wcc B u (fun C i=>?_) (fun C i=>?_))))))
 ·refine sr (lv (rv_assign (v:=V6 (-1)) u) (nq (rr ?_)))
  cases oi i
  exact ey results113 ⟨K,u,c.s,(by decide :rng64 (-1))⟩
 refine wc_skip (qr (fl ff184_2 u tf182 m0 c u (mv u ?_)))
 obtain⟨V,D,G⟩:=ob i
 refine lk co159 (ok_laws_szPostS F c.enter0 q (cast_rng l (w64_rng _)) D) ?_
 rintro W X ⟨m,rfl,H,I⟩
 have o:=(c.c0 H).t1
 refine av u (nsr (mv u (lv (rv_lss u u) (nq (wcc G u (fun J k=>?_) (fun J k=>?_))))))
 ·refine sr (lv (rv_assign (v:=V6 (-1)) u) (nq (rr ?_)))
  cases oi k
  exact ey results113 ⟨m,u,o.s,(by decide :rng64 (-1))⟩
 refine wc_skip (qr (mv u (av u (nq (wc_ret ?_)))))
 cases oi k
 exact ey results113 ⟨m,u,o.s,I⟩

theorem ok_laws_szEntryS {q0:List GEntry}{q1:Int}{r:Int}(hS:SH w K [] w K [])(m:SliceAt tGEntry K A a b q0)(ap:rng64 q1)(hm:M.laws_szEntryS F q0 q1=some r):
  Calls prog 63 #[V3 A a b,V6 q1] w (R_i w K r):=by
 rw [M.laws_szEntryS] at hm
 refine ci func63 u ntmps63 (sr (lv (r_0 u) (nr (mv u (mv u (lv (rv_len underlying27 u m) (lv (rv_sub u u) (av u (nsr ?_)))))))))
 refine mv u (lv (rv_lss u u) (nq (wc_cond u (fun o=>?_) (fun o=>?_))))
 ·have q:=cond_t o hm
  refine sr (lv (rv_assign (v:=V6 (-1)) u) (nq (rr ?_)))
  cases oi q
  exact ey results63 ⟨K,u,hS,(by decide :rng64 (-1))⟩
 have q:=cond_f o hm
 refine wc_skip (qs (sr (lv (r_0 u) (nq ?_))))
 obtain⟨J,O,d⟩:=ob q
 refine wc_cutg (fun E' w'=>∃f i,J= .inl f∧E'=[(1,V6 f)]∧SH w K [] w' i []∧KLe K i∧rng64 f) ?_ ?_
 ·refine wc_block ?_
  obtain⟨aq,R,y⟩:=ob O
  refine qw (fun (c:Int×Int)=>IW w K [] K [(0,V3 A a b),(1,V6 c.1),(5,V6 c.2)] [] (rng64 c.1∧rng64 c.2)) R ⟨K,u,hS,kr,(w64_rng _),d_0⟩ ?_
  rintro c _ ar au S B ⟨T,rfl,k,l,C,aw⟩
  refine wc_seq (sr (mv u (mv u (lv (rv_len underlying27 u (m.mono l)) (lv (rv_lss u u) (nq (wcc S u (fun U s=>?_) (fun U s=>?_))))))))
  ·refine wc_skip (qs (wc_block (sr (mv u (mv u ?_)))))
   obtain⟨D,V,W⟩:=ob s
   refine li underlying27 tf184 (m.mono l) V fun X Y ax aa ab=>?_
   obtain⟨ac,ad,ae,rfl,af,ag,ah⟩:=aa
   have ai:AtK _ X Y [sv D.Field,sv D.Term,V3 ac ad ae]:=ab
   refine lv (rv_loadS tf184 u k ai u) (mv u ?_)
   obtain⟨ay,aj,ak⟩:=ob W
   refine lk co113 (ok_laws_szEntry F k.enter0 af ag ah C aj) ?_
   rintro az aA ⟨G,rfl,H,al⟩
   have I:=(k.c0 H).t0
   refine av u (nr (mv u (lv (rv_lss u u) (nq (wcc ak u (fun am x=>?_) (fun am x=>?_))))))
   ·refine sr (lv (rv_assign (v:=V6 (-1)) u) (nq (wc_ret (qe_block_ret (qe_then_ret (qe_then_ret ?_))))))
    cases oi x
    cases B _ u
    refine qe_block_ret (qe_then_ret ?_)
    cases oi y
    refine qe_then_ret ?_
    cases oi d
    exact ey results63 ⟨G,u,I,(by decide :rng64 (-1))⟩
   refine wc_skip (qe_block (qe_seq (wc_region (mv u (lv (rv_add u u) (av u (wl_nil ?_)))))))
   cases oi x
   exact qd ⟨_,u,G,u,I,(l.trans H.le),al,(w64_rng _)⟩
  refine wc_exit (qe_then_exit (qe_then_exit ?_))
  cases oi s
  cases B _ u
  refine qe_block_eq ?_
  cases oi y
  exact qd ⟨_,T,u,u,k,l,C⟩
 rintro _ aB ⟨f,i,rfl,rfl,an,aC,ao⟩
 have d:=elim_l d
 refine qr (mv u (av u (nq (wc_ret ?_))))
 cases oi d
 exact ey results63 ⟨i,u,an,ao⟩

theorem ok_laws_szSeg {q0:GSeg}{q1:Int}{r:Int}(hS:SH w K [] w K [])(s:SliceAt tGDoc K A a b q0.Docs)(x:SliceAt tGEntry K B c d q0.Entries)(y:rng64 q1)(hm:M.laws_szSeg F q0 q1=some r):
  Calls prog 24 #[.agg #[V3 A a b,V3 B c d],V6 q1] w (R_i w K r):=by
 rw [M.laws_szSeg] at hm
 refine ci func24 u ntmps24 (sr (bx u hS fun C W D=>?_))
 have i:SH _ _ _ _ _ [obj C [V3 A a b,V3 B c d] 29]:=D
 refine lv (r_0 u) (nr (fl ff29_0 u tf26 m0 i u (mv u ?_)))
 obtain⟨X,G,H⟩:=ob hm
 refine lk co62 (ok_laws_szDocS F i.enter0 s y G) ?_
 rintro Y aa ⟨I,rfl,m,J⟩
 have f:=(i.c0 m).t1
 refine av u (nsr (mv u (lv (rv_lss u u) (nq (wcc H u (fun O k=>?_) (fun O k=>?_))))))
 ·refine sr (lv (rv_assign (v:=V6 (-1)) u) (nq (rr ?_)))
  cases oi k
  exact ey results24 ⟨I,u,f.s,(by decide :rng64 (-1))⟩
 refine wc_skip (qr (fl ff29_1 u tf27 m0 f u (mv u ?_)))
 obtain⟨ab,R,S⟩:=ob k
 refine lk co63 (ok_laws_szEntryS F f.enter0 (x.mono m.le) J R) ?_
 rintro ac ad ⟨o,rfl,T,U⟩
 have q:=(f.c0 T).t1
 refine av u (nsr (mv u (lv (rv_lss u u) (nq (wcc S u (fun V l=>?_) (fun V l=>?_))))))
 ·refine sr (lv (rv_assign (v:=V6 (-1)) u) (nq (rr ?_)))
  cases oi l
  exact ey results24 ⟨o,u,q.s,(by decide :rng64 (-1))⟩
 refine wc_skip (qr (mv u (av u (nq (wc_ret ?_)))))
 cases oi l
 exact ey results24 ⟨o,u,q.s,U⟩
end Go.Proofs.YtpdfkjjmcnhakaaGreatDoor
