/-
 Walks of the functions. Printed by gen.py.
-/
import Derived.Test.YtfiahfncijjliaaGreatDoorFacts
set_option linter.unusedVariables false
set_option linter.unusedSectionVars false
set_option maxRecDepth 100000
namespace Go.Proofs.YtfiahfncijjliaaGreatDoor
set_option maxHeartbeats 4000000
open Go Go.Fk Go.RowKit Tryz
variable (F:Nat){w:World}{K:KMap}{Z:List Nat}{g1 g2 g3:Nat}{A B C D G H I J O R S T:Option Addr}{a b c d f i k l m n o p q s v x y aa ab ac ad ae af ag:Nat}
variable [dr:Dr]

theorem ok_laws_szField {q0:GField}{q1:Int}{r:Int}(hS:SH w K [] w K [])(q:q0.Name.length≤maxLen)(s:q0.Text.length≤maxLen)(x:rng64 q1)(hm:M.laws_szField F q0 q1=some r):
  Calls prog 143 #[.agg #[sv q0.Name,sv q0.Text],V6 q1] w (R_i w K r):=by
 rw [M.laws_szField] at hm
 refine ci func143 u ntmps143 (sr (bx u hS fun i y k=>?_))
 have a:SH _ _ _ _ _ [obj i [sv q0.Name,sv q0.Text] 202]:=k
 refine lv (r_0 u) (nr (mv u (fl ff202_0 u tf9 m0 a u (lv (rv_slen underlying9 u) (lv (rv_sub u u) (av u (nsr (mv u (lv (rv_lss u u) ?_)))))))))
 refine nq (wc_cond u (fun b=>?_) (fun b=>?_))
 ·have c:=cond_t b hm
  refine sr (lv (rv_assign (v:=V6 (-1)) u) (nq (rr ?_)))
  cases oi c
  exact ey results143 ⟨K,u,a.s,(by decide :rng64 (-1))⟩
 have c:=cond_f b hm
 refine wc_skip (qr (mv u (fl ff202_1 u tf9 m0 a u (lv (rv_slen underlying9 u) (lv (rv_sub u u) ?_)))))
 obtain⟨A,l,m⟩:=ob c
 have f:=oi l
 refine lv (rv_as u (congrArg (Value.int .i64) f)) (nsr (mv u (lv (rv_lss u u) (nq (wcc m u (fun o d=>?_) (fun o d=>?_))))))
 ·refine sr (lv (rv_assign (v:=V6 (-1)) u) (nq (rr ?_)))
  cases oi d
  exact ey results143 ⟨K,u,a.s,(by decide :rng64 (-1))⟩
 refine wc_skip (qr (mv u (av u (nq (wc_ret ?_)))))
 cases oi d
 exact ey results143 ⟨K,u,a.s,(cast_rng f (w64_rng _))⟩

theorem ok_laws_szFieldS {q0:List GField}{q1:Int}{r:Int}(hS:SH w K [] w K [])(m:SliceAt tGField K A a b q0)(al:rng64 q1)(hm:M.laws_szFieldS F q0 q1=some r):
  Calls prog 97 #[V3 A a b,V6 q1] w (R_i w K r):=by
 rw [M.laws_szFieldS] at hm
 refine ci func97 u ntmps97 (sr (lv (r_0 u) (nr (mv u (mv u (lv (rv_len underlying100 u m) (lv (rv_sub u u) (av u (nsr ?_)))))))))
 refine mv u (lv (rv_lss u u) (nq (wc_cond u (fun o=>?_) (fun o=>?_))))
 ·have q:=cond_t o hm
  refine sr (lv (rv_assign (v:=V6 (-1)) u) (nq (rr ?_)))
  cases oi q
  exact ey results97 ⟨K,u,hS,(by decide :rng64 (-1))⟩
 have q:=cond_f o hm
 refine wc_skip (qs (sr (lv (r_0 u) (nq ?_))))
 obtain⟨J,O,d⟩:=ob q
 refine wc_cutg (fun E' w'=>∃f i,J= .inl f∧E'=[(1,V6 f)]∧SH w K [] w' i []∧KLe K i∧rng64 f) ?_ ?_
 ·refine wc_block ?_
  obtain⟨am,R,y⟩:=ob O
  refine qw (fun (c:Int×Int)=>IW w K [] K [(0,V3 A a b),(1,V6 c.1),(5,V6 c.2)] [] (rng64 c.1∧rng64 c.2)) R ⟨K,u,hS,kr,(w64_rng _),d_0⟩ ?_
  rintro c _ an ao S B ⟨T,rfl,k,l,C,ap⟩
  refine wc_seq (sr (mv u (mv u (lv (rv_len underlying100 u (m.mono l)) (lv (rv_lss u u) (nq (wcc S u (fun U s=>?_) (fun U s=>?_))))))))
  ·refine wc_skip (qs (wc_block (sr (mv u (mv u ?_)))))
   obtain⟨D,V,W⟩:=ob s
   refine li underlying100 tf202 (m.mono l) V fun X Y aq aa ab=>?_
   obtain⟨rfl,ac,ad⟩:=aa
   have ae:AtK _ X Y [sv D.Name,sv D.Text]:=ab
   refine lv (rv_loadS tf202 u k ae u) (mv u ?_)
   obtain⟨ar,af,ag⟩:=ob W
   refine lk co143 (ok_laws_szField F k.enter0 ac ad C af) ?_
   rintro au aw ⟨G,rfl,H,ah⟩
   have I:=(k.c0 H).t0
   refine av u (nr (mv u (lv (rv_lss u u) (nq (wcc ag u (fun ai x=>?_) (fun ai x=>?_))))))
   ·refine sr (lv (rv_assign (v:=V6 (-1)) u) (nq (wc_ret (qe_block_ret (qe_then_ret (qe_then_ret ?_))))))
    cases oi x
    cases B _ u
    refine qe_block_ret (qe_then_ret ?_)
    cases oi y
    refine qe_then_ret ?_
    cases oi d
    exact ey results97 ⟨G,u,I,(by decide :rng64 (-1))⟩
   refine wc_skip (qe_block (qe_seq (wc_region (mv u (lv (rv_add u u) (av u (wl_nil ?_)))))))
   cases oi x
   exact qd ⟨_,u,G,u,I,(l.trans H.le),ah,(w64_rng _)⟩
  refine wc_exit (qe_then_exit (qe_then_exit ?_))
  cases oi s
  cases B _ u
  refine qe_block_eq ?_
  cases oi y
  exact qd ⟨_,T,u,u,k,l,C⟩
 rintro _ ax ⟨f,i,rfl,rfl,aj,ay,ak⟩
 have d:=elim_l d
 refine qr (mv u (av u (nq (wc_ret ?_))))
 cases oi d
 exact ey results97 ⟨i,u,aj,ak⟩

theorem ok_laws_szAttr {q0:GAttr}{q1:Int}{r:Int}(hS:SH w K [] w K [])(i:q0.Name.length≤maxLen)(k:rng64 q0.Num)(l:rng64 q1)(hm:M.laws_szAttr F q0 q1=some r):
  Calls prog 144 #[.agg #[sv q0.Name,V6 q0.Num],V6 q1] w (R_i w K r):=by
 rw [M.laws_szAttr] at hm
 refine ci func144 u ntmps144 (sr (bx u hS fun d m f=>?_))
 have a:SH _ _ _ _ _ [obj d [sv q0.Name,V6 q0.Num] 204]:=f
 refine lv (r_0 u) (nr (mv u (fl ff204_0 u tf9 m0 a u (lv (rv_slen underlying9 u) (lv (rv_sub u u) (av u (nsr (mv u (lv (rv_lss u u) ?_)))))))))
 refine nq (wc_cond u (fun b=>?_) (fun b=>?_))
 ·have c:=cond_t b hm
  refine sr (lv (rv_assign (v:=V6 (-1)) u) (nq (rr ?_)))
  cases oi c
  exact ey results144 ⟨K,u,a.s,(by decide :rng64 (-1))⟩
 have c:=cond_f b hm
 refine wc_skip (qr (mv u (av u (nq (wc_ret ?_)))))
 cases oi c
 exact ey results144 ⟨K,u,a.s,(w64_rng _)⟩

theorem ok_laws_szAttrS {q0:List GAttr}{q1:Int}{r:Int}(hS:SH w K [] w K [])(m:SliceAt tGAttr K A a b q0)(al:rng64 q1)(hm:M.laws_szAttrS F q0 q1=some r):
  Calls prog 98 #[V3 A a b,V6 q1] w (R_i w K r):=by
 rw [M.laws_szAttrS] at hm
 refine ci func98 u ntmps98 (sr (lv (r_0 u) (nr (mv u (mv u (lv (rv_len underlying101 u m) (lv (rv_sub u u) (av u (nsr ?_)))))))))
 refine mv u (lv (rv_lss u u) (nq (wc_cond u (fun o=>?_) (fun o=>?_))))
 ·have q:=cond_t o hm
  refine sr (lv (rv_assign (v:=V6 (-1)) u) (nq (rr ?_)))
  cases oi q
  exact ey results98 ⟨K,u,hS,(by decide :rng64 (-1))⟩
 have q:=cond_f o hm
 refine wc_skip (qs (sr (lv (r_0 u) (nq ?_))))
 obtain⟨J,O,d⟩:=ob q
 refine wc_cutg (fun E' w'=>∃f i,J= .inl f∧E'=[(1,V6 f)]∧SH w K [] w' i []∧KLe K i∧rng64 f) ?_ ?_
 ·refine wc_block ?_
  obtain⟨am,R,y⟩:=ob O
  refine qw (fun (c:Int×Int)=>IW w K [] K [(0,V3 A a b),(1,V6 c.1),(5,V6 c.2)] [] (rng64 c.1∧rng64 c.2)) R ⟨K,u,hS,kr,(w64_rng _),d_0⟩ ?_
  rintro c _ an ao S B ⟨T,rfl,k,l,C,ap⟩
  refine wc_seq (sr (mv u (mv u (lv (rv_len underlying101 u (m.mono l)) (lv (rv_lss u u) (nq (wcc S u (fun U s=>?_) (fun U s=>?_))))))))
  ·refine wc_skip (qs (wc_block (sr (mv u (mv u ?_)))))
   obtain⟨D,V,W⟩:=ob s
   refine li underlying101 tf204 (m.mono l) V fun X Y aq aa ab=>?_
   obtain⟨rfl,ac,ad⟩:=aa
   have ae:AtK _ X Y [sv D.Name,V6 D.Num]:=ab
   refine lv (rv_loadS tf204 u k ae u) (mv u ?_)
   obtain⟨ar,af,ag⟩:=ob W
   refine lk co144 (ok_laws_szAttr F k.enter0 ac ad C af) ?_
   rintro au aw ⟨G,rfl,H,ah⟩
   have I:=(k.c0 H).t0
   refine av u (nr (mv u (lv (rv_lss u u) (nq (wcc ag u (fun ai x=>?_) (fun ai x=>?_))))))
   ·refine sr (lv (rv_assign (v:=V6 (-1)) u) (nq (wc_ret (qe_block_ret (qe_then_ret (qe_then_ret ?_))))))
    cases oi x
    cases B _ u
    refine qe_block_ret (qe_then_ret ?_)
    cases oi y
    refine qe_then_ret ?_
    cases oi d
    exact ey results98 ⟨G,u,I,(by decide :rng64 (-1))⟩
   refine wc_skip (qe_block (qe_seq (wc_region (mv u (lv (rv_add u u) (av u (wl_nil ?_)))))))
   cases oi x
   exact qd ⟨_,u,G,u,I,(l.trans H.le),ah,(w64_rng _)⟩
  refine wc_exit (qe_then_exit (qe_then_exit ?_))
  cases oi s
  cases B _ u
  refine qe_block_eq ?_
  cases oi y
  exact qd ⟨_,T,u,u,k,l,C⟩
 rintro _ ax ⟨f,i,rfl,rfl,aj,ay,ak⟩
 have d:=elim_l d
 refine qr (mv u (av u (nq (wc_ret ?_))))
 cases oi d
 exact ey results98 ⟨i,u,aj,ak⟩

theorem ok_laws_szDoc {q0:GDoc}{q1:Int}{r:Int}(hS:SH w K [] w K [])(W:rng64 q0.Id)(s:SliceAt tGField K A a b q0.Fields)(x:SliceAt tGAttr K B c d q0.Nums)(y:rng64 q1)(hm:M.laws_szDoc F q0 q1=some r):
  Calls prog 60 #[.agg #[V6 q0.Id,V3 A a b,V3 B c d],V6 q1] w (R_i w K r):=by
 rw [M.laws_szDoc] at hm
 refine ci func60 u ntmps60 (sr (bx u hS fun C X D=>?_))
 have i:SH _ _ _ _ _ [obj C [V6 q0.Id,V3 A a b,V3 B c d] 103]:=D
 refine lv (r_0 u) (nr (fl ff103_1 u tf100 m0 i u (mv u ?_)))
 obtain⟨Y,G,H⟩:=ob hm
 refine lk co97 (ok_laws_szFieldS F i.enter0 s y G) ?_
 rintro aa ab ⟨I,rfl,m,J⟩
 have f:=(i.c0 m).t1
 refine av u (nsr (mv u (lv (rv_lss u u) (nq (wcc H u (fun O k=>?_) (fun O k=>?_))))))
 ·refine sr (lv (rv_assign (v:=V6 (-1)) u) (nq (rr ?_)))
  cases oi k
  exact ey results60 ⟨I,u,f.s,(by decide :rng64 (-1))⟩
 refine wc_skip (qr (fl ff103_2 u tf101 m0 f u (mv u ?_)))
 obtain⟨ac,R,S⟩:=ob k
 refine lk co98 (ok_laws_szAttrS F f.enter0 (x.mono m.le) J R) ?_
 rintro ad ae ⟨o,rfl,T,U⟩
 have q:=(f.c0 T).t1
 refine av u (nsr (mv u (lv (rv_lss u u) (nq (wcc S u (fun V l=>?_) (fun V l=>?_))))))
 ·refine sr (lv (rv_assign (v:=V6 (-1)) u) (nq (rr ?_)))
  cases oi l
  exact ey results60 ⟨o,u,q.s,(by decide :rng64 (-1))⟩
 refine wc_skip (qr (mv u (av u (nq (wc_ret ?_)))))
 cases oi l
 exact ey results60 ⟨o,u,q.s,U⟩

theorem ok_laws_szDocS {q0:List GDoc}{q1:Int}{r:Int}(hS:SH w K [] w K [])(m:SliceAt tGDoc K A a b q0)(au:rng64 q1)(hm:M.laws_szDocS F q0 q1=some r):
  Calls prog 28 #[V3 A a b,V6 q1] w (R_i w K r):=by
 rw [M.laws_szDocS] at hm
 refine ci func28 u ntmps28 (sr (lv (r_0 u) (nr (mv u (mv u (lv (rv_len underlying26 u m) (lv (rv_sub u u) (av u (nsr ?_)))))))))
 refine mv u (lv (rv_lss u u) (nq (wc_cond u (fun o=>?_) (fun o=>?_))))
 ·have q:=cond_t o hm
  refine sr (lv (rv_assign (v:=V6 (-1)) u) (nq (rr ?_)))
  cases oi q
  exact ey results28 ⟨K,u,hS,(by decide :rng64 (-1))⟩
 have q:=cond_f o hm
 refine wc_skip (qs (sr (lv (r_0 u) (nq ?_))))
 obtain⟨I,J,d⟩:=ob q
 refine wc_cutg (fun E' w'=>∃f i,I= .inl f∧E'=[(1,V6 f)]∧SH w K [] w' i []∧KLe K i∧rng64 f) ?_ ?_
 ·refine wc_block ?_
  obtain⟨aw,O,y⟩:=ob J
  refine qw (fun (c:Int×Int)=>IW w K [] K [(0,V3 A a b),(1,V6 c.1),(5,V6 c.2)] [] (rng64 c.1∧rng64 c.2)) O ⟨K,u,hS,kr,(w64_rng _),d_0⟩ ?_
  rintro c _ ax ay R B ⟨S,rfl,k,l,C,az⟩
  refine wc_seq (sr (mv u (mv u (lv (rv_len underlying26 u (m.mono l)) (lv (rv_lss u u) (nq (wcc R u (fun T s=>?_) (fun T s=>?_))))))))
  ·refine wc_skip (qs (wc_block (sr (mv u (mv u ?_)))))
   obtain⟨U,V,W⟩:=ob s
   refine li underlying26 tf103 (m.mono l) V fun X Y aA aa ab=>?_
   obtain⟨ac,ad,ae,af,ag,ah,rfl,ai,aj,ak⟩:=aa
   have al:AtK _ X Y [V6 U.Id,V3 ac ad ae,V3 af ag ah]:=ab
   refine lv (rv_loadS tf103 u k al u) (mv u ?_)
   obtain⟨aB,am,an⟩:=ob W
   refine lk co60 (ok_laws_szDoc F k.enter0 ai aj ak C am) ?_
   rintro aC aD ⟨D,rfl,G,ao⟩
   have H:=(k.c0 G).t0
   refine av u (nr (mv u (lv (rv_lss u u) (nq (wcc an u (fun ap x=>?_) (fun ap x=>?_))))))
   ·refine sr (lv (rv_assign (v:=V6 (-1)) u) (nq (wc_ret (qe_block_ret (qe_then_ret (qe_then_ret ?_))))))
    cases oi x
    cases B _ u
    refine qe_block_ret (qe_then_ret ?_)
    cases oi y
    refine qe_then_ret ?_
    cases oi d
    exact ey results28 ⟨D,u,H,(by decide :rng64 (-1))⟩
   refine wc_skip (qe_block (qe_seq (wc_region (mv u (lv (rv_add u u) (av u (wl_nil ?_)))))))
   cases oi x
   exact qd ⟨_,u,D,u,H,(l.trans G.le),ao,(w64_rng _)⟩
  refine wc_exit (qe_then_exit (qe_then_exit ?_))
  cases oi s
  cases B _ u
  refine qe_block_eq ?_
  cases oi y
  exact qd ⟨_,S,u,u,k,l,C⟩
 rintro _ aE ⟨f,i,rfl,rfl,aq,aF,ar⟩
 have d:=elim_l d
 refine qr (mv u (av u (nq (wc_ret ?_))))
 cases oi d
 exact ey results28 ⟨i,u,aq,ar⟩

theorem ok_laws_szIntS {q0:List Int}{q1:Int}{r:Int}(hS:SH w K [] w K [])(f:SliceAt tInt K A a b q0)(i:rng64 q1)(hm:M.laws_szIntS F q0 q1=some r):
  Calls prog 175 #[V3 A a b,V6 q1] w (R_i w K r):=by
 rw [M.laws_szIntS] at hm
 refine ci func175 u ntmps175 (sr (lv (r_0 u) (nr (mv u (mv u (lv (rv_len underlying117 u f) (lv (rv_sub u u) (av u (nsr ?_)))))))))
 refine mv u (lv (rv_lss u u) (nq (wc_cond u (fun c=>?_) (fun c=>?_))))
 ·have d:=cond_t c hm
  refine sr (lv (rv_assign (v:=V6 (-1)) u) (nq (rr ?_)))
  cases oi d
  exact ey results175 ⟨K,u,hS,(by decide :rng64 (-1))⟩
 have d:=cond_f c hm
 refine wc_skip (qr (mv u (av u (nq (wc_ret ?_)))))
 cases oi d
 exact ey results175 ⟨K,u,hS,(w64_rng _)⟩

theorem ok_laws_szPost {q0:GPost}{q1:Int}{r:Int}(hS:SH w K [] w K [])(C:rng64 q0.Doc)(k:SliceAt tInt K A a b q0.At)(l:rng64 q1)(hm:M.laws_szPost F q0 q1=some r):
  Calls prog 145 #[.agg #[V6 q0.Doc,V3 A a b],V6 q1] w (R_i w K r):=by
 rw [M.laws_szPost] at hm
 refine ci func145 u ntmps145 (sr (bx u hS fun m D o=>?_))
 have c:SH _ _ _ _ _ [obj m [V6 q0.Doc,V3 A a b] 206]:=o
 refine lv (r_0 u) (nr (fl ff206_1 u tf117 m0 c u (mv u ?_)))
 obtain⟨G,q,s⟩:=ob hm
 refine lk co175 (ok_laws_szIntS F c.enter0 k l q) ?_
 rintro H I ⟨f,rfl,x,y⟩
 have i:=(c.c0 x).t1
 refine av u (nsr (mv u (lv (rv_lss u u) (nq (wcc s u (fun B d=>?_) (fun B d=>?_))))))
 ·refine sr (lv (rv_assign (v:=V6 (-1)) u) (nq (rr ?_)))
  cases oi d
  exact ey results145 ⟨f,u,i.s,(by decide :rng64 (-1))⟩
 refine wc_skip (qr (mv u (av u (nq (wc_ret ?_)))))
 cases oi d
 exact ey results145 ⟨f,u,i.s,y⟩

theorem ok_laws_szPostS {q0:List GPost}{q1:Int}{r:Int}(hS:SH w K [] w K [])(m:SliceAt tGPost K A a b q0)(ao:rng64 q1)(hm:M.laws_szPostS F q0 q1=some r):
  Calls prog 99 #[V3 A a b,V6 q1] w (R_i w K r):=by
 rw [M.laws_szPostS] at hm
 refine ci func99 u ntmps99 (sr (lv (r_0 u) (nr (mv u (mv u (lv (rv_len underlying105 u m) (lv (rv_sub u u) (av u (nsr ?_)))))))))
 refine mv u (lv (rv_lss u u) (nq (wc_cond u (fun o=>?_) (fun o=>?_))))
 ·have q:=cond_t o hm
  refine sr (lv (rv_assign (v:=V6 (-1)) u) (nq (rr ?_)))
  cases oi q
  exact ey results99 ⟨K,u,hS,(by decide :rng64 (-1))⟩
 have q:=cond_f o hm
 refine wc_skip (qs (sr (lv (r_0 u) (nq ?_))))
 obtain⟨I,J,d⟩:=ob q
 refine wc_cutg (fun E' w'=>∃f i,I= .inl f∧E'=[(1,V6 f)]∧SH w K [] w' i []∧KLe K i∧rng64 f) ?_ ?_
 ·refine wc_block ?_
  obtain⟨ap,O,y⟩:=ob J
  refine qw (fun (c:Int×Int)=>IW w K [] K [(0,V3 A a b),(1,V6 c.1),(5,V6 c.2)] [] (rng64 c.1∧rng64 c.2)) O ⟨K,u,hS,kr,(w64_rng _),d_0⟩ ?_
  rintro c _ aq ar R B ⟨S,rfl,k,l,C,au⟩
  refine wc_seq (sr (mv u (mv u (lv (rv_len underlying105 u (m.mono l)) (lv (rv_lss u u) (nq (wcc R u (fun T s=>?_) (fun T s=>?_))))))))
  ·refine wc_skip (qs (wc_block (sr (mv u (mv u ?_)))))
   obtain⟨U,V,W⟩:=ob s
   refine li underlying105 tf206 (m.mono l) V fun X Y aw aa ab=>?_
   obtain⟨ac,ad,ae,rfl,af,ag⟩:=aa
   have ah:AtK _ X Y [V6 U.Doc,V3 ac ad ae]:=ab
   refine lv (rv_loadS tf206 u k ah u) (mv u ?_)
   obtain⟨ax,ai,aj⟩:=ob W
   refine lk co145 (ok_laws_szPost F k.enter0 af ag C ai) ?_
   rintro ay az ⟨D,rfl,G,ak⟩
   have H:=(k.c0 G).t0
   refine av u (nr (mv u (lv (rv_lss u u) (nq (wcc aj u (fun al x=>?_) (fun al x=>?_))))))
   ·refine sr (lv (rv_assign (v:=V6 (-1)) u) (nq (wc_ret (qe_block_ret (qe_then_ret (qe_then_ret ?_))))))
    cases oi x
    cases B _ u
    refine qe_block_ret (qe_then_ret ?_)
    cases oi y
    refine qe_then_ret ?_
    cases oi d
    exact ey results99 ⟨D,u,H,(by decide :rng64 (-1))⟩
   refine wc_skip (qe_block (qe_seq (wc_region (mv u (lv (rv_add u u) (av u (wl_nil ?_)))))))
   cases oi x
   exact qd ⟨_,u,D,u,H,(l.trans G.le),ak,(w64_rng _)⟩
  refine wc_exit (qe_then_exit (qe_then_exit ?_))
  cases oi s
  cases B _ u
  refine qe_block_eq ?_
  cases oi y
  exact qd ⟨_,S,u,u,k,l,C⟩
 rintro _ aA ⟨f,i,rfl,rfl,am,aB,an⟩
 have d:=elim_l d
 refine qr (mv u (av u (nq (wc_ret ?_))))
 cases oi d
 exact ey results99 ⟨i,u,am,an⟩

theorem ok_laws_szEntry {q0:GEntry}{q1:Int}{r:Int}(hS:SH w K [] w K [])(O:q0.Field.length≤maxLen)(R:q0.Term.length≤maxLen)(q:SliceAt tGPost K A a b q0.Posts)(S:rng64 q1)(hm:M.laws_szEntry F q0 q1=some r):
  Calls prog 61 #[.agg #[sv q0.Field,sv q0.Term,V3 A a b],V6 q1] w (R_i w K r):=by
 rw [M.laws_szEntry] at hm
 refine ci func61 u ntmps61 (sr (bx u hS fun s T x=>?_))
 have c:SH _ _ _ _ _ [obj s [sv q0.Field,sv q0.Term,V3 A a b] 107]:=x
 refine lv (r_0 u) (nr (mv u (fl ff107_0 u tf9 m0 c u (lv (rv_slen underlying9 u) (lv (rv_sub u u) (av u (nsr (mv u (lv (rv_lss u u) ?_)))))))))
 refine nq (wc_cond u (fun d=>?_) (fun d=>?_))
 ·have f:=cond_t d hm
  refine sr (lv (rv_assign (v:=V6 (-1)) u) (nq (rr ?_)))
  cases oi f
  exact ey results61 ⟨K,u,c.s,(by decide :rng64 (-1))⟩
 have f:=cond_f d hm
 refine wc_skip (qr (mv u (fl ff107_1 u tf9 m0 c u (lv (rv_slen underlying9 u) (lv (rv_sub u u) ?_)))))
 obtain⟨U,y,B⟩:=ob f
 have l:=oi y
 refine lv (rv_as u (congrArg (Value.int .i64) l)) (nsr (mv u (lv (rv_lss u u) (nq (wcc B u (fun C i=>?_) (fun C i=>?_))))))
 ·refine sr (lv (rv_assign (v:=V6 (-1)) u) (nq (rr ?_)))
  cases oi i
  exact ey results61 ⟨K,u,c.s,(by decide :rng64 (-1))⟩
 refine wc_skip (qr (fl ff107_2 u tf105 m0 c u (mv u ?_)))
 obtain⟨V,D,G⟩:=ob i
 refine lk co99 (ok_laws_szPostS F c.enter0 q (cast_rng l (w64_rng _)) D) ?_
 rintro W X ⟨m,rfl,H,I⟩
 have o:=(c.c0 H).t1
 refine av u (nsr (mv u (lv (rv_lss u u) (nq (wcc G u (fun J k=>?_) (fun J k=>?_))))))
 ·refine sr (lv (rv_assign (v:=V6 (-1)) u) (nq (rr ?_)))
  cases oi k
  exact ey results61 ⟨m,u,o.s,(by decide :rng64 (-1))⟩
 refine wc_skip (qr (mv u (av u (nq (wc_ret ?_)))))
 cases oi k
 exact ey results61 ⟨m,u,o.s,I⟩

theorem ok_laws_szEntryS {q0:List GEntry}{q1:Int}{r:Int}(hS:SH w K [] w K [])(m:SliceAt tGEntry K A a b q0)(ap:rng64 q1)(hm:M.laws_szEntryS F q0 q1=some r):
  Calls prog 29 #[V3 A a b,V6 q1] w (R_i w K r):=by
 rw [M.laws_szEntryS] at hm
 refine ci func29 u ntmps29 (sr (lv (r_0 u) (nr (mv u (mv u (lv (rv_len underlying27 u m) (lv (rv_sub u u) (av u (nsr ?_)))))))))
 refine mv u (lv (rv_lss u u) (nq (wc_cond u (fun o=>?_) (fun o=>?_))))
 ·have q:=cond_t o hm
  refine sr (lv (rv_assign (v:=V6 (-1)) u) (nq (rr ?_)))
  cases oi q
  exact ey results29 ⟨K,u,hS,(by decide :rng64 (-1))⟩
 have q:=cond_f o hm
 refine wc_skip (qs (sr (lv (r_0 u) (nq ?_))))
 obtain⟨J,O,d⟩:=ob q
 refine wc_cutg (fun E' w'=>∃f i,J= .inl f∧E'=[(1,V6 f)]∧SH w K [] w' i []∧KLe K i∧rng64 f) ?_ ?_
 ·refine wc_block ?_
  obtain⟨aq,R,y⟩:=ob O
  refine qw (fun (c:Int×Int)=>IW w K [] K [(0,V3 A a b),(1,V6 c.1),(5,V6 c.2)] [] (rng64 c.1∧rng64 c.2)) R ⟨K,u,hS,kr,(w64_rng _),d_0⟩ ?_
  rintro c _ ar au S B ⟨T,rfl,k,l,C,aw⟩
  refine wc_seq (sr (mv u (mv u (lv (rv_len underlying27 u (m.mono l)) (lv (rv_lss u u) (nq (wcc S u (fun U s=>?_) (fun U s=>?_))))))))
  ·refine wc_skip (qs (wc_block (sr (mv u (mv u ?_)))))
   obtain⟨D,V,W⟩:=ob s
   refine li underlying27 tf107 (m.mono l) V fun X Y ax aa ab=>?_
   obtain⟨ac,ad,ae,rfl,af,ag,ah⟩:=aa
   have ai:AtK _ X Y [sv D.Field,sv D.Term,V3 ac ad ae]:=ab
   refine lv (rv_loadS tf107 u k ai u) (mv u ?_)
   obtain⟨ay,aj,ak⟩:=ob W
   refine lk co61 (ok_laws_szEntry F k.enter0 af ag ah C aj) ?_
   rintro az aA ⟨G,rfl,H,al⟩
   have I:=(k.c0 H).t0
   refine av u (nr (mv u (lv (rv_lss u u) (nq (wcc ak u (fun am x=>?_) (fun am x=>?_))))))
   ·refine sr (lv (rv_assign (v:=V6 (-1)) u) (nq (wc_ret (qe_block_ret (qe_then_ret (qe_then_ret ?_))))))
    cases oi x
    cases B _ u
    refine qe_block_ret (qe_then_ret ?_)
    cases oi y
    refine qe_then_ret ?_
    cases oi d
    exact ey results29 ⟨G,u,I,(by decide :rng64 (-1))⟩
   refine wc_skip (qe_block (qe_seq (wc_region (mv u (lv (rv_add u u) (av u (wl_nil ?_)))))))
   cases oi x
   exact qd ⟨_,u,G,u,I,(l.trans H.le),al,(w64_rng _)⟩
  refine wc_exit (qe_then_exit (qe_then_exit ?_))
  cases oi s
  cases B _ u
  refine qe_block_eq ?_
  cases oi y
  exact qd ⟨_,T,u,u,k,l,C⟩
 rintro _ aB ⟨f,i,rfl,rfl,an,aC,ao⟩
 have d:=elim_l d
 refine qr (mv u (av u (nq (wc_ret ?_))))
 cases oi d
 exact ey results29 ⟨i,u,an,ao⟩

theorem ok_laws_toStringS {q0:List Str}{r:(List Str)}(hS:SH w K [] w K [])(s:SliceAt tStr K A a b q0)(hm:M.laws_toStringS F q0=some r):
  Calls prog 20 #[V3 A a b] w fun e w'=>∃a_1 n_2 c_3 K',e= .returned (V3 a_1 n_2 c_3)∧SH w K [] w' K' [tail (V3 a_1 n_2 c_3) 9 1]∧SliceAt tStr K' a_1 n_2 c_3 r:=by
 rw [M.laws_toStringS] at hm
 refine ci func20 u ntmps20 (sr (lv (r_n u) (nr (mv u (lv (rv_len underlying22 u s) ?_)))))
 obtain⟨H,I,J⟩:=ob hm
 refine wl_make (t:=tStr) wn u underlying22 tf9 u u u I ⟨u,(by decide :([]:Str).length≤maxLen)⟩ hS fun k cs9 ao hmx13 hrow11 O=>?_
 obtain⟨m14,hm15⟩: ∃m,m=H.length:=⟨_,u⟩
 rw [←hm15] at hmx13
 rw [←hm15]
 refine av u (nsr (lv (r_0 u) (nq ?_)))
 obtain⟨C,R,S⟩:=ob J
 refine wc_cutg (fun E' w'=>∃cs23 l,E'=[(3,V3 (some ⟨k,0,none⟩) m14 m14)]∧SH w K [] w' l [obj k cs23 9]∧KLe K l∧RowAt true tStr l cs23 C∧m14=C.length) ?_ ?_
 ·refine wc_block ?_
  obtain⟨ap,T,U⟩:=ob R
  refine qw (fun (c:Int×(List Str)) E' w'=>∃cs36 f,E'=[(0,V3 A a b),(3,V3 (some ⟨k,0,none⟩) m14 m14),(4,V6 c.1)]∧SH w K [] w' f [obj k cs36 9]∧KLe K f∧rng64 c.1∧RowAt true tStr f cs36 c.2∧m14=c.2.length) T ⟨cs9,K,u,O,kr,d_0,hrow11,hm15⟩ ?_
  rintro c _ aq ar V W ⟨cs36,f,rfl,x,o,au,hrow37,hm38⟩
  refine wc_seq (sr (mv u (mv u (lv (rv_len underlying22 u (s.mono o)) (lv (rv_lss u u) (nq (wcc V u (fun X y=>?_) (fun X y=>?_))))))))
  ·refine wc_skip (qs (wc_block (wc_region (mv u (mv u (mv u (mv u ?_)))))))
   obtain⟨q,Y,aa⟩:=ob y
   refine li underlying22 tf9 (s.mono o) Y fun ab ac aw ad ae=>?_
   obtain⟨rfl,af⟩:=ad
   have ag:AtK _ ab ac [sv q]:=ae
   refine lv (rv_load1 tf9 u x (ag 0 _ u)) ?_
   obtain⟨ah,B,ai⟩:=ob aa
   obtain⟨ax,aj,ak⟩:=RowAt.at hrow37 B
   obtain⟨rfl,ay⟩:=aj
   have az: ∀(j:Nat) (d:Value),[sv ah][j]? =some d→cs36[c.1.toNat*tStr.size+j]? =some d:=ak
   refine lv (rv_indexRow (t:=tStr) underlying22 tf9 u u hm38 B) (wl_storeRow (t:=tStr) (v:=sv q) (e:=q) wn tf9 u u ⟨u,af⟩ x hrow37 B fun cs62 aA hrow64 al=>?_)
   have hm66:=hm38.trans (List.length_set (i:=c.1.toNat) (a:=q)).symm
   refine nb (qe_seq (wc_region (mv u (lv (rv_add u u) (av u (wl_nil ?_))))))
   cases oi ai
   exact qd ⟨_,u,cs62,f,u,al,o,(w64_rng _),hrow64,hm66⟩
  refine wc_exit (qe_then_exit (qe_then_exit ?_))
  cases oi y
  cases W _ u
  refine qe_block_eq ?_
  cases oi U
  exact qd ⟨cs36,f,u,x,o,hrow37,hm38⟩
 rintro _ aB ⟨cs23,l,rfl,am,aC,hrow24,hm25⟩
 refine qr (mv u (av u (nq (wc_ret ?_))))
 obtain⟨an,aD,D,G⟩:=SH.freeze am hrow24 (row_max hm25 hmx13)
 rw [←hm25] at D G
 cases oi S
 exact ey results20 ⟨(some ⟨k,0,none⟩),m14,m14,an,u,G,D⟩

theorem bag_laws_toStringS (F:Nat){w:World}{K:KMap}{a1:Option Addr}{n2 c3:Nat}{p0_a:List Str}{r:(List Str)}(hS:SH w K [] w K [])(hs4:SliceAt tStr K a1 n2 c3 p0_a)(hm:M.laws_toStringS F p0_a=some r):
  Calls Tryz.prog 20 #[.slice a1 n2 c3] w fun e w'=>∃(a_1:Option Addr) (n_2 c_3:Nat) (K':KMap) (B':List Nat),e= .returned (.slice a_1 n_2 c_3)∧SH w K [] w' K' [bag B']∧SliceAt tStr (K'.only B') a_1 n_2 c_3 r:=
 (ok_laws_toStringS F hS hs4 hm).mono fun e w' ⟨a,n,c,K',he,hS',hs'⟩=>
  let ⟨B,hB,hb⟩:=SH.bagTail hS'
  ⟨a,n,c,K',B,he,hB,SliceAt.only_flat (t:=tStr) (fun h=>h) hs' hb⟩

theorem bag_laws_toSyn (F:Nat){w:World}{K:KMap}{a1:Option Addr}{n2 c3:Nat}{p0_a:GSyn}{r:GSyn}(hS:SH w K [] w K [])(hs4:SliceAt tStr K a1 n2 c3 p0_a.From)(hl5:p0_a.To.length≤maxLen)(hm:M.laws_toSyn F p0_a=some r):
  Calls Tryz.prog 68 #[.agg #[.slice a1 n2 c3,sv p0_a.To]] w fun e w'=>∃(a_1:Option Addr) (n_2 c_3:Nat) (K':KMap) (B':List Nat),e= .returned (.agg #[.slice a_1 n_2 c_3,sv r.To])∧SH w K [] w' K' [bag B']∧SliceAt tStr (K'.only B') a_1 n_2 c_3 r.From∧r.To.length≤maxLen:=by
 rw [M.laws_toSyn] at hm
 refine calls_in Tryz.func68 u Tryz.ntmps68 u ?_
 refine sr ?_
 refine wl_box wn u u hS ?_
 intro g6 w7 hS8
 have hS9:SH _ _ _ _ _ [obj g6 [.slice a1 n2 c3,sv p0_a.To] 98]:=hS8
 refine wl_alloc wn u tf120 hS9 ?_
 intro g10 w11 hS12
 have hS13:SH _ _ _ _ _ [obj g10 [.slice none 0 0,sv []] 120,_]:=hS12
 refine nr ?_
 refine wl_alloc wn u tf120 hS13 ?_
 intro g14 w15 hS16
 have hS17:SH _ _ _ _ _ [obj g14 [.slice none 0 0,sv []] 120,_,_]:=hS16
 refine nr ?_
 refine wl_val wn u (rv_fieldAddr ff98_0 u) ?_
 refine wl_val wn u (rv_loadm1 tf22 u (.tail _ (.tail _ (.head _))) hS17 u) ?_
 obtain⟨r18,hx19,h20⟩:=ob hm
 refine wl_call wn u (rt_call (vs:=[.slice a1 n2 c3]) co20 u) ((bag_laws_toStringS F) hS17.enter0 hs4 hx19) ?_
 rintro e28 w22 ⟨a24,n25,c26,K21,B21,rfl,hS23,hs27⟩
 refine⟨_,u,?_⟩
 have hS29:SH _ _ _ _ _ [_,_,_,_]:=SH.call0 hS17 hS23
 refine wl_val wn u (rv_fieldAddr ff120_0 u) ?_
 have hS30:SH _ _ _ _ _ [_,_,_,_]:=SH.front (p:=[_]) hS29
 refine wl_store (cs':=[.slice a24 n25 c26,sv []]) (v:=.slice a24 n25 c26) wn tf22 u u u (by simp [Value.cells,Value.oneCell']) hS30 u u ?_
 intro w31 hS32
 refine nr ?_
 refine wl_val wn u (rv_fieldAddr ff98_1 u) ?_
 refine wl_val wn u (rv_loadm1 tf9 u (.tail _ (.tail _ (.tail _ (.head _)))) hS32 u) ?_
 refine wl_val wn u (rv_fieldAddr ff120_1 u) ?_
 refine wl_store (cs':=[.slice a24 n25 c26,sv p0_a.To]) (v:=sv p0_a.To) wn tf9 u u u (by simp [Value.cells,Value.oneCell',sv]) hS32 u u ?_
 intro w33 hS34
 refine nr ?_
 refine wl_val wn u (rv_loadmS (ds:=[.slice a24 n25 c26,sv p0_a.To]) tf120 u (.head _) hS34 u u) ?_
 have hS35:SH _ _ _ _ _ [_,_,_,_]:=SH.front (p:=[_,_]) hS34
 refine wl_store (cs':=[.slice a24 n25 c26,sv p0_a.To]) (v:=.agg #[.slice a24 n25 c26,sv p0_a.To]) wn tf120 u u u (by simp [Value.cells,Value.oneCell',sv]) hS35 u u ?_
 intro w36 hS37
 refine nq ?_
 refine wc_ret ?_
 obtain rfl:=oi h20
 have hS38:SH _ _ _ _ _ [_]:=SH.sublist hS37 (.cons _ (.cons _ (.cons_cons _ (.cons _ .slnil))))
 exact qe_ret (vs:=[_]) Tryz.results68 ⟨⟨_,_,u,run_loadVar_at tf120 (cs:=[.slice a24 n25 c26,sv p0_a.To]) (fun j c e=>by rw [Nat.zero_add,hS37.mem_obj (.head _)];exact e) (.inl ⟨u,u,u⟩)⟩,trivial⟩ ⟨a24,n25,c26,K21,B21,u,hS38,(SliceAt.mono (only_mono (KLe.refl _) fun _ h=>h) hs27),hl5⟩

theorem bag_laws_toSynS (F:Nat){w:World}{K:KMap}{a1:Option Addr}{n2 c3:Nat}{p0_a:List GSyn}{r:(List GSyn)}(hS:SH w K [] w K [])(hs4:SliceAt tGSyn K a1 n2 c3 p0_a)(hm:M.laws_toSynS F p0_a=some r):
  Calls Tryz.prog 32 #[.slice a1 n2 c3] w fun e w'=>∃(a_1:Option Addr) (n_2 c_3:Nat) (K':KMap) (B':List Nat),e= .returned (.slice a_1 n_2 c_3)∧SH w K [] w' K' [bag B']∧SliceAt tGSyn (K'.only B') a_1 n_2 c_3 r:=by
 rw [M.laws_toSynS] at hm
 refine calls_in Tryz.func32 u Tryz.ntmps32 u ?_
 refine sr ?_
 refine wl_val wn u (rv_assign (v:=.slice none 0 0) u) ?_
 refine nr ?_
 refine vm u u ?_
 refine wl_val wn u (rv_len (t:=tGSyn) Tryz.underlying23 u hs4) ?_
 obtain⟨x5,hx6,h7⟩:=ob hm
 refine wl_make (t:=Ty.fix tGSyn (K.only [])) wn u Tryz.underlying34 tf120 u u u hx6 ⟨none,0,0,u,(SliceAt.nil _ _),(by decide :([]:Str).length≤maxLen)⟩ hS ?_
 intro g8 cs9 w10 hmx13 hrow11 hS12
 obtain⟨m14,hm15⟩: ∃m,m=x5.length:=⟨_,u⟩
 rw [←hm15] at hmx13
 rw [←hm15]
 refine va u u ?_
 refine nsr ?_
 refine wl_val wn u (rv_assign (v:=.int .i64 0) u) ?_
 refine nq ?_
 obtain⟨o16,h17,h18⟩:=ob h7
 refine wc_cutg (fun E' w'=>∃(cs23:List Value) (K19:KMap) (B19:List Nat),E'=[(3,.slice (some ⟨g8,0,none⟩) m14 m14)]∧SH w K [] w' K19 [obj g8 cs23 120,bag B19]∧KLe K K19∧RowAt true tGSyn (K19.only B19) cs23 o16∧m14=o16.length) ?_ ?_
 ·refine wc_block ?_
  obtain⟨r27,h28,h29⟩:=ob h17
  refine wc_while' (fun (s26:Int×(List GSyn)) E' w'=>∃(cs36:List Value) (K30:KMap) (B30:List Nat),E'=[(0,.slice a1 n2 c3),(3,.slice (some ⟨g8,0,none⟩) m14 m14),(4,.int .i64 s26.1)]∧SH w K [] w' K30 [obj g8 cs36 120,bag B30]∧KLe K K30∧rng64 s26.1∧RowAt true tGSyn (K30.only B30) cs36 s26.2∧m14=s26.2.length) h28 ⟨cs9,K,[],u,(SH.perm (SH.bag0 hS12) (List.Perm.swap _ _ _)),(KLe.refl _),d_0,hrow11,hm15⟩ ⟨u,u,u,trivial⟩ ?_
  rintro s26 _ w33 r39 h40 hx41 ⟨cs36,K30,B30,rfl,hS34,hl31,hr35,hrow37,hm38⟩
  refine wc_seq ?_
  refine sr ?_
  refine vm u u ?_
  refine vm u u ?_
  refine wl_val wn u (rv_len (t:=tGSyn) Tryz.underlying23 u (SliceAt.mono hl31 hs4)) ?_
  refine wl_val wn u (rv_lss u u) ?_
  refine nq ?_
  refine wc_cond u (fun hb42=>?_) (fun hb42=>?_)
  ·have h43:=cond_t hb42 h40
   refine wc_skip ?_
   refine qs ?_
   refine wc_block ?_
   refine wc_region ?_
   refine vm u u ?_
   refine vm u u ?_
   refine vm u u ?_
   refine vm u u ?_
   obtain⟨x44,hx45,h46⟩:=ob h43
   refine wl_indexAddr (t:=tGSyn) wn u Tryz.underlying23 tf98 u u (SliceAt.mono hl31 hs4) hx45 ?_
   intro b47 o48 u49 hu50 ha51
   obtain⟨a52,n53,c54,rfl,hs55,hl56⟩:=hu50
   have ha57:AtK _ b47 o48 [.slice a52 n53 c54,sv x44.To]:=ha51
   refine wl_val wn u (rv_loadS (cs:=[.slice a52 n53 c54,sv x44.To]) tf98 u hS34 ha57 u) ?_
   obtain⟨r58,hx59,h60⟩:=ob h46
   refine wl_call wn u (rt_call (vs:=[.agg #[.slice a52 n53 c54,sv x44.To]]) co68 u) ((bag_laws_toSyn F) hS34.enter0 hs55 hl56 hx59) ?_
   rintro e69 w62 ⟨a64,n65,c66,K61,B61,rfl,hS63,hs67,hl68⟩
   refine⟨_,u,?_⟩
   have hS70:SH _ _ _ _ _ [_,_]:=SH.bagJoin (SH.perm (SH.call0 hS34 hS63) (List.Perm.cons _ (List.Perm.swap _ _ _)))
   obtain⟨x71,hx72,h73⟩:=ob h60
   obtain⟨u74,hu75,hk76⟩:=RowAt.at (RowAt.mono (only_mono hS63.le fun _ h=>h) hrow37) hx72
   obtain⟨a78,n79,c80,rfl,hs81,hl82⟩:=hu75
   have hk77: ∀(j:Nat) (d:Value),[.slice a78 n79 c80,sv x71.To][j]? =some d→cs36[s26.1.toNat*tGSyn.size+j]? =some d:=hk76
   refine wl_val wn u (rv_indexRow (t:=tGSyn) Tryz.underlying34 tf120 u u hm38 hx72) ?_
   have hS83:SH _ _ _ _ _ [_,_]:=SH.front (p:=[_]) hS70
   refine wl_storeRow (t:=Ty.fix tGSyn (K61.only (B61++B30))) (v:=.agg #[.slice a64 n65 c66,sv r58.To]) (e:=r58) wn tf120 u u ⟨a64,n65,c66,u,(SliceAt.mono (only_mono (KLe.refl _) fun _ h=>List.mem_append_left _ h) hs67),hl68⟩ hS83 (show RowAt true tGSyn (K61.only (B61++B30)) _ _ from RowAt.mono (only_mono hS63.le fun _ h=>List.mem_append_right _ h) hrow37) hx72 ?_
   intro cs84 w85 hrow86 hS87
   have hm88:=hm38.trans (List.length_set (i:=s26.1.toNat) (a:=r58)).symm
   refine nb ?_
   refine qe_seq ?_
   refine wc_region ?_
   refine vm u u ?_
   refine wl_val wn u (rv_add u u) ?_
   refine va u u ?_
   refine wl_nil ?_
   obtain rfl:=oi h73
   have hS89:=hS87
   exact qe_mid' ⟨_,u,cs84,K61,(B61++B30),u,hS89,(hl31.trans hS63.le),(w64_rng _),hrow86,hm88⟩ ⟨u,u,u,trivial⟩
  ·have h43:=cond_f hb42 h40
   refine wc_exit ?_
   refine qe_then_exit ?_
   refine qe_then_exit ?_
   obtain rfl:=oi h43
   have e90:=hx41 _ u
   subst e90
   refine qe_block_eq ?_
   obtain rfl:=oi h29
   exact qe_mid' ⟨cs36,K30,B30,u,hS34,hl31,hrow37,hm38⟩ ⟨u,trivial⟩
 ·rintro _ w21 ⟨cs23,K19,B19,rfl,hS22,hl20,hrow24,hm25⟩
  refine qr ?_
  refine vm u u ?_
  refine va u u ?_
  refine nq ?_
  refine wc_ret ?_
  obtain⟨K91,hl92,hs93,hS94⟩:=SH.freeze (t:=Ty.fix tGSyn (K19.only B19)) hS22 hrow24 (row_max hm25 hmx13)
  rw [←hm25] at hs93 hS94
  obtain rfl:=oi h18
  obtain⟨Bz,hSz,hBz⟩:=SH.bagTail hS94
  exact qe_ret (vs:=[_]) Tryz.results32 ⟨u,trivial⟩ ⟨(some ⟨g8,0,none⟩),m14,m14,K91,(Bz++B19),u,SH.bagJoin hSz,SliceAt.unfix hs93 (only_mono hl92 fun _ h=>List.mem_append_right _ h) (fun hc b o e=>List.mem_append_left _ (hBz hc b o e))⟩

theorem bag_laws_toConf (F:Nat){w:World}{K:KMap}{a1:Option Addr}{n2 c3:Nat}{a5:Option Addr}{n6 c7:Nat}{p0_a:GConf}{r:GConf}(hS:SH w K [] w K [])(hs4:SliceAt tStr K a1 n2 c3 p0_a.Stops)(hs8:SliceAt tGSyn K a5 n6 c7 p0_a.Syns)(hm:M.laws_toConf F p0_a=some r):
  Calls Tryz.prog 8 #[.agg #[.slice a1 n2 c3,.slice a5 n6 c7]] w fun e w'=>∃(a_1:Option Addr) (n_2 c_3:Nat) (a_5:Option Addr) (n_6 c_7:Nat) (K':KMap) (B':List Nat),e= .returned (.agg #[.slice a_1 n_2 c_3,.slice a_5 n_6 c_7])∧SH w K [] w' K' [bag B']∧SliceAt tStr (K'.only B') a_1 n_2 c_3 r.Stops∧SliceAt tGSyn (K'.only B') a_5 n_6 c_7 r.Syns:=by
 rw [M.laws_toConf] at hm
 refine calls_in Tryz.func8 u Tryz.ntmps8 u ?_
 refine sr ?_
 refine wl_box wn u u hS ?_
 intro g9 w10 hS11
 have hS12:SH _ _ _ _ _ [obj g9 [.slice a1 n2 c3,.slice a5 n6 c7] 25]:=hS11
 refine wl_alloc wn u tf36 hS12 ?_
 intro g13 w14 hS15
 have hS16:SH _ _ _ _ _ [obj g13 [.slice none 0 0,.slice none 0 0] 36,_]:=hS15
 refine nr ?_
 refine wl_alloc wn u tf36 hS16 ?_
 intro g17 w18 hS19
 have hS20:SH _ _ _ _ _ [obj g17 [.slice none 0 0,.slice none 0 0] 36,_,_]:=hS19
 refine nr ?_
 refine wl_val wn u (rv_fieldAddr ff25_0 u) ?_
 refine wl_val wn u (rv_loadm1 tf22 u (.tail _ (.tail _ (.head _))) hS20 u) ?_
 obtain⟨r21,hx22,h23⟩:=ob hm
 refine wl_call wn u (rt_call (vs:=[.slice a1 n2 c3]) co20 u) ((bag_laws_toStringS F) hS20.enter0 hs4 hx22) ?_
 rintro e31 w25 ⟨a27,n28,c29,K24,B24,rfl,hS26,hs30⟩
 refine⟨_,u,?_⟩
 have hS32:SH _ _ _ _ _ [_,_,_,_]:=SH.call0 hS20 hS26
 refine wl_val wn u (rv_fieldAddr ff36_0 u) ?_
 have hS33:SH _ _ _ _ _ [_,_,_,_]:=SH.front (p:=[_]) hS32
 refine wl_store (cs':=[.slice a27 n28 c29,.slice none 0 0]) (v:=.slice a27 n28 c29) wn tf22 u u u (by simp [Value.cells,Value.oneCell']) hS33 u u ?_
 intro w34 hS35
 refine nr ?_
 refine wl_val wn u (rv_fieldAddr ff25_1 u) ?_
 refine wl_val wn u (rv_loadm1 tf23 u (.tail _ (.tail _ (.tail _ (.head _)))) hS35 u) ?_
 obtain⟨r36,hx37,h38⟩:=ob h23
 refine wl_call wn u (rt_call (vs:=[.slice a5 n6 c7]) co32 u) ((bag_laws_toSynS F) hS35.enter0 (SliceAt.mono hS26.le hs8) hx37) ?_
 rintro e46 w40 ⟨a42,n43,c44,K39,B39,rfl,hS41,hs45⟩
 refine⟨_,u,?_⟩
 have hS47:SH _ _ _ _ _ [_,_,_,_,_]:=SH.call0 hS35 hS41
 refine wl_val wn u (rv_fieldAddr ff36_1 u) ?_
 have hS48:SH _ _ _ _ _ [_,_,_,_,_]:=SH.front (p:=[_]) hS47
 refine wl_store (cs':=[.slice a27 n28 c29,.slice a42 n43 c44]) (v:=.slice a42 n43 c44) wn tf34 u u u (by simp [Value.cells,Value.oneCell']) hS48 u u ?_
 intro w49 hS50
 refine nr ?_
 refine wl_val wn u (rv_loadmS (ds:=[.slice a27 n28 c29,.slice a42 n43 c44]) tf36 u (.head _) hS50 u u) ?_
 have hS51:SH _ _ _ _ _ [_,_,_,_,_]:=SH.front (p:=[_,_,_]) hS50
 refine wl_store (cs':=[.slice a27 n28 c29,.slice a42 n43 c44]) (v:=.agg #[.slice a27 n28 c29,.slice a42 n43 c44]) wn tf36 u u u (by simp [Value.cells,Value.oneCell']) hS51 u u ?_
 intro w52 hS53
 refine nq ?_
 refine wc_ret ?_
 obtain rfl:=oi h38
 have hS54:SH _ _ _ _ _ [_,_,_,_,_]:=SH.front (p:=[_,_]) hS53
 have hS55:SH _ _ _ _ _ [_,_,_,_,_]:=SH.front (p:=[_,_,_]) hS54
 have hS56:SH _ _ _ _ _ [_,_]:=SH.sublist hS55 (.cons_cons _ (.cons_cons _ (.cons _ (.cons _ (.cons _ .slnil)))))
 exact qe_ret (vs:=[_]) Tryz.results8 ⟨⟨_,_,u,run_loadVar_at tf36 (cs:=[.slice a27 n28 c29,.slice a42 n43 c44]) (fun j c e=>by rw [Nat.zero_add,hS53.mem_obj (.head _)];exact e) (.inl ⟨u,u,u⟩)⟩,trivial⟩ ⟨a27,n28,c29,a42,n43,c44,K39,(B24++B39),u,SH.bagJoin hS56,(SliceAt.mono (only_mono hS41.le fun _ h=>List.mem_append_left _ h) hs30),(SliceAt.mono (only_mono (KLe.refl _) fun _ h=>List.mem_append_right _ h) hs45)⟩

theorem ok_laws_toIntS {q0:List Int}{r:(List Int)}(hS:SH w K [] w K [])(s:SliceAt tInt K A a b q0)(hm:M.laws_toIntS F q0=some r):
  Calls prog 178 #[V3 A a b] w fun e w'=>∃a_1 n_2 c_3 K',e= .returned (V3 a_1 n_2 c_3)∧SH w K [] w' K' [tail (V3 a_1 n_2 c_3) 3 1]∧SliceAt tInt K' a_1 n_2 c_3 r:=by
 rw [M.laws_toIntS] at hm
 refine ci func178 u ntmps178 (sr (lv (r_n u) (nr (mv u (lv (rv_len underlying117 u s) ?_)))))
 obtain⟨H,I,J⟩:=ob hm
 refine wl_make (t:=tInt) wn u underlying117 tf3 u u u I ⟨u,d_0⟩ hS fun k cs9 ao hmx13 hrow11 O=>?_
 obtain⟨m14,hm15⟩: ∃m,m=H.length:=⟨_,u⟩
 rw [←hm15] at hmx13
 rw [←hm15]
 refine av u (nsr (lv (r_0 u) (nq ?_)))
 obtain⟨C,R,S⟩:=ob J
 refine wc_cutg (fun E' w'=>∃cs23 l,E'=[(3,V3 (some ⟨k,0,none⟩) m14 m14)]∧SH w K [] w' l [obj k cs23 3]∧KLe K l∧RowAt true tInt l cs23 C∧m14=C.length) ?_ ?_
 ·refine wc_block ?_
  obtain⟨ap,T,U⟩:=ob R
  refine qw (fun (c:Int×(List Int)) E' w'=>∃cs36 f,E'=[(0,V3 A a b),(3,V3 (some ⟨k,0,none⟩) m14 m14),(4,V6 c.1)]∧SH w K [] w' f [obj k cs36 3]∧KLe K f∧rng64 c.1∧RowAt true tInt f cs36 c.2∧m14=c.2.length) T ⟨cs9,K,u,O,kr,d_0,hrow11,hm15⟩ ?_
  rintro c _ aq ar V W ⟨cs36,f,rfl,x,o,au,hrow37,hm38⟩
  refine wc_seq (sr (mv u (mv u (lv (rv_len underlying117 u (s.mono o)) (lv (rv_lss u u) (nq (wcc V u (fun X y=>?_) (fun X y=>?_))))))))
  ·refine wc_skip (qs (wc_block (wc_region (mv u (mv u (mv u (mv u ?_)))))))
   obtain⟨q,Y,aa⟩:=ob y
   refine li underlying117 tf3 (s.mono o) Y fun ab ac aw ad ae=>?_
   obtain⟨rfl,af⟩:=ad
   have ag:AtK _ ab ac [V6 q]:=ae
   refine lv (rv_load1 tf3 u x (ag 0 _ u)) ?_
   obtain⟨ah,B,ai⟩:=ob aa
   obtain⟨ax,aj,ak⟩:=RowAt.at hrow37 B
   obtain⟨rfl,ay⟩:=aj
   have az: ∀(j:Nat) (d:Value),[V6 ah][j]? =some d→cs36[c.1.toNat*tInt.size+j]? =some d:=ak
   refine lv (rv_indexRow (t:=tInt) underlying117 tf3 u u hm38 B) (wl_storeRow (t:=tInt) (v:=V6 q) (e:=q) wn tf3 u u ⟨u,af⟩ x hrow37 B fun cs62 aA hrow64 al=>?_)
   have hm66:=hm38.trans (List.length_set (i:=c.1.toNat) (a:=q)).symm
   refine nb (qe_seq (wc_region (mv u (lv (rv_add u u) (av u (wl_nil ?_))))))
   cases oi ai
   exact qd ⟨_,u,cs62,f,u,al,o,(w64_rng _),hrow64,hm66⟩
  refine wc_exit (qe_then_exit (qe_then_exit ?_))
  cases oi y
  cases W _ u
  refine qe_block_eq ?_
  cases oi U
  exact qd ⟨cs36,f,u,x,o,hrow37,hm38⟩
 rintro _ aB ⟨cs23,l,rfl,am,aC,hrow24,hm25⟩
 refine qr (mv u (av u (nq (wc_ret ?_))))
 obtain⟨an,aD,D,G⟩:=SH.freeze am hrow24 (row_max hm25 hmx13)
 rw [←hm25] at D G
 cases oi S
 exact ey results178 ⟨(some ⟨k,0,none⟩),m14,m14,an,u,G,D⟩

theorem bag_laws_toIntS (F:Nat){w:World}{K:KMap}{a1:Option Addr}{n2 c3:Nat}{p0_a:List Int}{r:(List Int)}(hS:SH w K [] w K [])(hs4:SliceAt tInt K a1 n2 c3 p0_a)(hm:M.laws_toIntS F p0_a=some r):
  Calls Tryz.prog 178 #[.slice a1 n2 c3] w fun e w'=>∃(a_1:Option Addr) (n_2 c_3:Nat) (K':KMap) (B':List Nat),e= .returned (.slice a_1 n_2 c_3)∧SH w K [] w' K' [bag B']∧SliceAt tInt (K'.only B') a_1 n_2 c_3 r:=
 (ok_laws_toIntS F hS hs4 hm).mono fun e w' ⟨a,n,c,K',he,hS',hs'⟩=>
  let ⟨B,hB,hb⟩:=SH.bagTail hS'
  ⟨a,n,c,K',B,he,hB,SliceAt.only_flat (t:=tInt) (fun h=>h) hs' hb⟩

theorem bag_laws_toPost (F:Nat){w:World}{K:KMap}{a2:Option Addr}{n3 c4:Nat}{p0_a:GPost}{r:GPost}(hS:SH w K [] w K [])(hr1:rng64 p0_a.Doc)(hs5:SliceAt tInt K a2 n3 c4 p0_a.At)(hm:M.laws_toPost F p0_a=some r):
  Calls Tryz.prog 155 #[.agg #[.int .i64 p0_a.Doc,.slice a2 n3 c4]] w fun e w'=>∃(a_2:Option Addr) (n_3 c_4:Nat) (K':KMap) (B':List Nat),e= .returned (.agg #[.int .i64 r.Doc,.slice a_2 n_3 c_4])∧SH w K [] w' K' [bag B']∧rng64 r.Doc∧SliceAt tInt (K'.only B') a_2 n_3 c_4 r.At:=by
 rw [M.laws_toPost] at hm
 refine calls_in Tryz.func155 u Tryz.ntmps155 u ?_
 refine sr ?_
 refine wl_box wn u u hS ?_
 intro g6 w7 hS8
 have hS9:SH _ _ _ _ _ [obj g6 [.int .i64 p0_a.Doc,.slice a2 n3 c4] 206]:=hS8
 refine wl_alloc wn u tf119 hS9 ?_
 intro g10 w11 hS12
 have hS13:SH _ _ _ _ _ [obj g10 [.int .i64 0,.slice none 0 0] 119,_]:=hS12
 refine nr ?_
 refine wl_alloc wn u tf119 hS13 ?_
 intro g14 w15 hS16
 have hS17:SH _ _ _ _ _ [obj g14 [.int .i64 0,.slice none 0 0] 119,_,_]:=hS16
 refine nr ?_
 refine wl_val wn u (rv_fieldAddr ff206_0 u) ?_
 refine wl_val wn u (rv_loadm1 tf3 u (.tail _ (.tail _ (.head _))) hS17 u) ?_
 refine wl_val wn u (rv_fieldAddr ff119_0 u) ?_
 refine wl_store (cs':=[.int .i64 p0_a.Doc,.slice none 0 0]) (v:=.int .i64 p0_a.Doc) wn tf3 u u u (by simp [Value.cells,Value.oneCell']) hS17 u u ?_
 intro w18 hS19
 refine nr ?_
 refine wl_val wn u (rv_fieldAddr ff206_1 u) ?_
 refine wl_val wn u (rv_loadm1 tf117 u (.tail _ (.tail _ (.head _))) hS19 u) ?_
 obtain⟨r20,hx21,h22⟩:=ob hm
 refine wl_call wn u (rt_call (vs:=[.slice a2 n3 c4]) co178 u) ((bag_laws_toIntS F) hS19.enter0 hs5 hx21) ?_
 rintro e30 w24 ⟨a26,n27,c28,K23,B23,rfl,hS25,hs29⟩
 refine⟨_,u,?_⟩
 have hS31:SH _ _ _ _ _ [_,_,_,_]:=SH.call0 hS19 hS25
 refine wl_val wn u (rv_fieldAddr ff119_1 u) ?_
 have hS32:SH _ _ _ _ _ [_,_,_,_]:=SH.front (p:=[_]) hS31
 refine wl_store (cs':=[.int .i64 p0_a.Doc,.slice a26 n27 c28]) (v:=.slice a26 n27 c28) wn tf117 u u u (by simp [Value.cells,Value.oneCell']) hS32 u u ?_
 intro w33 hS34
 refine nr ?_
 refine wl_val wn u (rv_loadmS (ds:=[.int .i64 p0_a.Doc,.slice a26 n27 c28]) tf119 u (.head _) hS34 u u) ?_
 have hS35:SH _ _ _ _ _ [_,_,_,_]:=SH.front (p:=[_,_]) hS34
 refine wl_store (cs':=[.int .i64 p0_a.Doc,.slice a26 n27 c28]) (v:=.agg #[.int .i64 p0_a.Doc,.slice a26 n27 c28]) wn tf119 u u u (by simp [Value.cells,Value.oneCell']) hS35 u u ?_
 intro w36 hS37
 refine nq ?_
 refine wc_ret ?_
 obtain rfl:=oi h22
 have hS38:SH _ _ _ _ _ [_]:=SH.sublist hS37 (.cons _ (.cons _ (.cons_cons _ (.cons _ .slnil))))
 exact qe_ret (vs:=[_]) Tryz.results155 ⟨⟨_,_,u,run_loadVar_at tf119 (cs:=[.int .i64 p0_a.Doc,.slice a26 n27 c28]) (fun j c e=>by rw [Nat.zero_add,hS37.mem_obj (.head _)];exact e) (.inl ⟨u,u,u⟩)⟩,trivial⟩ ⟨a26,n27,c28,K23,B23,u,hS38,hr1,(SliceAt.mono (only_mono (KLe.refl _) fun _ h=>h) hs29)⟩

theorem bag_laws_toPostS (F:Nat){w:World}{K:KMap}{a1:Option Addr}{n2 c3:Nat}{p0_a:List GPost}{r:(List GPost)}(hS:SH w K [] w K [])(hs4:SliceAt tGPost K a1 n2 c3 p0_a)(hm:M.laws_toPostS F p0_a=some r):
  Calls Tryz.prog 113 #[.slice a1 n2 c3] w fun e w'=>∃(a_1:Option Addr) (n_2 c_3:Nat) (K':KMap) (B':List Nat),e= .returned (.slice a_1 n_2 c_3)∧SH w K [] w' K' [bag B']∧SliceAt tGPost (K'.only B') a_1 n_2 c_3 r:=by
 rw [M.laws_toPostS] at hm
 refine calls_in Tryz.func113 u Tryz.ntmps113 u ?_
 refine sr ?_
 refine wl_val wn u (rv_assign (v:=.slice none 0 0) u) ?_
 refine nr ?_
 refine vm u u ?_
 refine wl_val wn u (rv_len (t:=tGPost) Tryz.underlying105 u hs4) ?_
 obtain⟨x5,hx6,h7⟩:=ob hm
 refine wl_make (t:=Ty.fix tGPost (K.only [])) wn u Tryz.underlying112 tf119 u u u hx6 ⟨none,0,0,u,d_0,(SliceAt.nil _ _)⟩ hS ?_
 intro g8 cs9 w10 hmx13 hrow11 hS12
 obtain⟨m14,hm15⟩: ∃m,m=x5.length:=⟨_,u⟩
 rw [←hm15] at hmx13
 rw [←hm15]
 refine va u u ?_
 refine nsr ?_
 refine wl_val wn u (rv_assign (v:=.int .i64 0) u) ?_
 refine nq ?_
 obtain⟨o16,h17,h18⟩:=ob h7
 refine wc_cutg (fun E' w'=>∃(cs23:List Value) (K19:KMap) (B19:List Nat),E'=[(3,.slice (some ⟨g8,0,none⟩) m14 m14)]∧SH w K [] w' K19 [obj g8 cs23 119,bag B19]∧KLe K K19∧RowAt true tGPost (K19.only B19) cs23 o16∧m14=o16.length) ?_ ?_
 ·refine wc_block ?_
  obtain⟨r27,h28,h29⟩:=ob h17
  refine wc_while' (fun (s26:Int×(List GPost)) E' w'=>∃(cs36:List Value) (K30:KMap) (B30:List Nat),E'=[(0,.slice a1 n2 c3),(3,.slice (some ⟨g8,0,none⟩) m14 m14),(4,.int .i64 s26.1)]∧SH w K [] w' K30 [obj g8 cs36 119,bag B30]∧KLe K K30∧rng64 s26.1∧RowAt true tGPost (K30.only B30) cs36 s26.2∧m14=s26.2.length) h28 ⟨cs9,K,[],u,(SH.perm (SH.bag0 hS12) (List.Perm.swap _ _ _)),(KLe.refl _),d_0,hrow11,hm15⟩ ⟨u,u,u,trivial⟩ ?_
  rintro s26 _ w33 r39 h40 hx41 ⟨cs36,K30,B30,rfl,hS34,hl31,hr35,hrow37,hm38⟩
  refine wc_seq ?_
  refine sr ?_
  refine vm u u ?_
  refine vm u u ?_
  refine wl_val wn u (rv_len (t:=tGPost) Tryz.underlying105 u (SliceAt.mono hl31 hs4)) ?_
  refine wl_val wn u (rv_lss u u) ?_
  refine nq ?_
  refine wc_cond u (fun hb42=>?_) (fun hb42=>?_)
  ·have h43:=cond_t hb42 h40
   refine wc_skip ?_
   refine qs ?_
   refine wc_block ?_
   refine wc_region ?_
   refine vm u u ?_
   refine vm u u ?_
   refine vm u u ?_
   refine vm u u ?_
   obtain⟨x44,hx45,h46⟩:=ob h43
   refine wl_indexAddr (t:=tGPost) wn u Tryz.underlying105 tf206 u u (SliceAt.mono hl31 hs4) hx45 ?_
   intro b47 o48 u49 hu50 ha51
   obtain⟨a53,n54,c55,rfl,hr52,hs56⟩:=hu50
   have ha57:AtK _ b47 o48 [.int .i64 x44.Doc,.slice a53 n54 c55]:=ha51
   refine wl_val wn u (rv_loadS (cs:=[.int .i64 x44.Doc,.slice a53 n54 c55]) tf206 u hS34 ha57 u) ?_
   obtain⟨r58,hx59,h60⟩:=ob h46
   refine wl_call wn u (rt_call (vs:=[.agg #[.int .i64 x44.Doc,.slice a53 n54 c55]]) co155 u) ((bag_laws_toPost F) hS34.enter0 hr52 hs56 hx59) ?_
   rintro e69 w62 ⟨a65,n66,c67,K61,B61,rfl,hS63,hr64,hs68⟩
   refine⟨_,u,?_⟩
   have hS70:SH _ _ _ _ _ [_,_]:=SH.bagJoin (SH.perm (SH.call0 hS34 hS63) (List.Perm.cons _ (List.Perm.swap _ _ _)))
   obtain⟨x71,hx72,h73⟩:=ob h60
   obtain⟨u74,hu75,hk76⟩:=RowAt.at (RowAt.mono (only_mono hS63.le fun _ h=>h) hrow37) hx72
   obtain⟨a79,n80,c81,rfl,hr78,hs82⟩:=hu75
   have hk77: ∀(j:Nat) (d:Value),[.int .i64 x71.Doc,.slice a79 n80 c81][j]? =some d→cs36[s26.1.toNat*tGPost.size+j]? =some d:=hk76
   refine wl_val wn u (rv_indexRow (t:=tGPost) Tryz.underlying112 tf119 u u hm38 hx72) ?_
   have hS83:SH _ _ _ _ _ [_,_]:=SH.front (p:=[_]) hS70
   refine wl_storeRow (t:=Ty.fix tGPost (K61.only (B61++B30))) (v:=.agg #[.int .i64 r58.Doc,.slice a65 n66 c67]) (e:=r58) wn tf119 u u ⟨a65,n66,c67,u,hr64,(SliceAt.mono (only_mono (KLe.refl _) fun _ h=>List.mem_append_left _ h) hs68)⟩ hS83 (show RowAt true tGPost (K61.only (B61++B30)) _ _ from RowAt.mono (only_mono hS63.le fun _ h=>List.mem_append_right _ h) hrow37) hx72 ?_
   intro cs84 w85 hrow86 hS87
   have hm88:=hm38.trans (List.length_set (i:=s26.1.toNat) (a:=r58)).symm
   refine nb ?_
   refine qe_seq ?_
   refine wc_region ?_
   refine vm u u ?_
   refine wl_val wn u (rv_add u u) ?_
   refine va u u ?_
   refine wl_nil ?_
   obtain rfl:=oi h73
   have hS89:=hS87
   exact qe_mid' ⟨_,u,cs84,K61,(B61++B30),u,hS89,(hl31.trans hS63.le),(w64_rng _),hrow86,hm88⟩ ⟨u,u,u,trivial⟩
  ·have h43:=cond_f hb42 h40
   refine wc_exit ?_
   refine qe_then_exit ?_
   refine qe_then_exit ?_
   obtain rfl:=oi h43
   have e90:=hx41 _ u
   subst e90
   refine qe_block_eq ?_
   obtain rfl:=oi h29
   exact qe_mid' ⟨cs36,K30,B30,u,hS34,hl31,hrow37,hm38⟩ ⟨u,trivial⟩
 ·rintro _ w21 ⟨cs23,K19,B19,rfl,hS22,hl20,hrow24,hm25⟩
  refine qr ?_
  refine vm u u ?_
  refine va u u ?_
  refine nq ?_
  refine wc_ret ?_
  obtain⟨K91,hl92,hs93,hS94⟩:=SH.freeze (t:=Ty.fix tGPost (K19.only B19)) hS22 hrow24 (row_max hm25 hmx13)
  rw [←hm25] at hs93 hS94
  obtain rfl:=oi h18
  obtain⟨Bz,hSz,hBz⟩:=SH.bagTail hS94
  exact qe_ret (vs:=[_]) Tryz.results113 ⟨u,trivial⟩ ⟨(some ⟨g8,0,none⟩),m14,m14,K91,(Bz++B19),u,SH.bagJoin hSz,SliceAt.unfix hs93 (only_mono hl92 fun _ h=>List.mem_append_right _ h) (fun hc b o e=>List.mem_append_left _ (hBz hc b o e))⟩

theorem bag_laws_toEntry (F:Nat){w:World}{K:KMap}{a3:Option Addr}{n4 c5:Nat}{p0_a:GEntry}{r:GEntry}(hS:SH w K [] w K [])(hl1:p0_a.Field.length≤maxLen)(hl2:p0_a.Term.length≤maxLen)(hs6:SliceAt tGPost K a3 n4 c5 p0_a.Posts)(hm:M.laws_toEntry F p0_a=some r):
  Calls Tryz.prog 70 #[.agg #[sv p0_a.Field,sv p0_a.Term,.slice a3 n4 c5]] w fun e w'=>∃(a_3:Option Addr) (n_4 c_5:Nat) (K':KMap) (B':List Nat),e= .returned (.agg #[sv r.Field,sv r.Term,.slice a_3 n_4 c_5])∧SH w K [] w' K' [bag B']∧r.Field.length≤maxLen∧r.Term.length≤maxLen∧SliceAt tGPost (K'.only B') a_3 n_4 c_5 r.Posts:=by
 rw [M.laws_toEntry] at hm
 refine calls_in Tryz.func70 u Tryz.ntmps70 u ?_
 refine sr ?_
 refine wl_box wn u u hS ?_
 intro g7 w9 hS10
 have hS11:SH _ _ _ _ _ [obj g7 [sv p0_a.Field,sv p0_a.Term,.slice a3 n4 c5] 107]:=hS10
 refine wl_alloc wn u tf114 hS11 ?_
 intro g12 w13 hS14
 have hS15:SH _ _ _ _ _ [obj g12 [sv [],sv [],.slice none 0 0] 114,_]:=hS14
 refine nr ?_
 refine wl_alloc wn u tf114 hS15 ?_
 intro g16 w17 hS18
 have hS19:SH _ _ _ _ _ [obj g16 [sv [],sv [],.slice none 0 0] 114,_,_]:=hS18
 refine nr ?_
 refine wl_val wn u (rv_fieldAddr ff107_0 u) ?_
 refine wl_val wn u (rv_loadm1 tf9 u (.tail _ (.tail _ (.head _))) hS19 u) ?_
 refine wl_val wn u (rv_fieldAddr ff114_0 u) ?_
 refine wl_store (cs':=[sv p0_a.Field,sv [],.slice none 0 0]) (v:=sv p0_a.Field) wn tf9 u u u (by simp [Value.cells,Value.oneCell',sv]) hS19 u u ?_
 intro w20 hS21
 refine nr ?_
 refine wl_val wn u (rv_fieldAddr ff107_1 u) ?_
 refine wl_val wn u (rv_loadm1 tf9 u (.tail _ (.tail _ (.head _))) hS21 u) ?_
 refine wl_val wn u (rv_fieldAddr ff114_1 u) ?_
 refine wl_store (cs':=[sv p0_a.Field,sv p0_a.Term,.slice none 0 0]) (v:=sv p0_a.Term) wn tf9 u u u (by simp [Value.cells,Value.oneCell',sv]) hS21 u u ?_
 intro w22 hS23
 refine nr ?_
 refine wl_val wn u (rv_fieldAddr ff107_2 u) ?_
 refine wl_val wn u (rv_loadm1 tf105 u (.tail _ (.tail _ (.head _))) hS23 u) ?_
 obtain⟨r24,hx25,h26⟩:=ob hm
 refine wl_call wn u (rt_call (vs:=[.slice a3 n4 c5]) co113 u) ((bag_laws_toPostS F) hS23.enter0 hs6 hx25) ?_
 rintro e34 w28 ⟨a30,n31,c32,K27,B27,rfl,hS29,hs33⟩
 refine⟨_,u,?_⟩
 have hS35:SH _ _ _ _ _ [_,_,_,_]:=SH.call0 hS23 hS29
 refine wl_val wn u (rv_fieldAddr ff114_2 u) ?_
 have hS36:SH _ _ _ _ _ [_,_,_,_]:=SH.front (p:=[_]) hS35
 refine wl_store (cs':=[sv p0_a.Field,sv p0_a.Term,.slice a30 n31 c32]) (v:=.slice a30 n31 c32) wn tf112 u u u (by simp [Value.cells,Value.oneCell']) hS36 u u ?_
 intro w37 hS38
 refine nr ?_
 refine wl_val wn u (rv_loadmS (ds:=[sv p0_a.Field,sv p0_a.Term,.slice a30 n31 c32]) tf114 u (.head _) hS38 u u) ?_
 have hS39:SH _ _ _ _ _ [_,_,_,_]:=SH.front (p:=[_,_]) hS38
 refine wl_store (cs':=[sv p0_a.Field,sv p0_a.Term,.slice a30 n31 c32]) (v:=.agg #[sv p0_a.Field,sv p0_a.Term,.slice a30 n31 c32]) wn tf114 u u u (by simp [Value.cells,Value.oneCell',sv]) hS39 u u ?_
 intro w40 hS41
 refine nq ?_
 refine wc_ret ?_
 obtain rfl:=oi h26
 have hS42:SH _ _ _ _ _ [_]:=SH.sublist hS41 (.cons _ (.cons _ (.cons_cons _ (.cons _ .slnil))))
 exact qe_ret (vs:=[_]) Tryz.results70 ⟨⟨_,_,u,run_loadVar_at tf114 (cs:=[sv p0_a.Field,sv p0_a.Term,.slice a30 n31 c32]) (fun j c e=>by rw [Nat.zero_add,hS41.mem_obj (.head _)];exact e) (.inl ⟨u,u,u⟩)⟩,trivial⟩ ⟨a30,n31,c32,K27,B27,u,hS42,hl1,hl2,(SliceAt.mono (only_mono (KLe.refl _) fun _ h=>h) hs33)⟩

theorem bag_laws_toEntryS (F:Nat){w:World}{K:KMap}{a1:Option Addr}{n2 c3:Nat}{p0_a:List GEntry}{r:(List GEntry)}(hS:SH w K [] w K [])(hs4:SliceAt tGEntry K a1 n2 c3 p0_a)(hm:M.laws_toEntryS F p0_a=some r):
  Calls Tryz.prog 34 #[.slice a1 n2 c3] w fun e w'=>∃(a_1:Option Addr) (n_2 c_3:Nat) (K':KMap) (B':List Nat),e= .returned (.slice a_1 n_2 c_3)∧SH w K [] w' K' [bag B']∧SliceAt tGEntry (K'.only B') a_1 n_2 c_3 r:=by
 rw [M.laws_toEntryS] at hm
 refine calls_in Tryz.func34 u Tryz.ntmps34 u ?_
 refine sr ?_
 refine wl_val wn u (rv_assign (v:=.slice none 0 0) u) ?_
 refine nr ?_
 refine vm u u ?_
 refine wl_val wn u (rv_len (t:=tGEntry) Tryz.underlying27 u hs4) ?_
 obtain⟨x5,hx6,h7⟩:=ob hm
 refine wl_make (t:=Ty.fix tGEntry (K.only [])) wn u Tryz.underlying39 tf114 u u u hx6 ⟨none,0,0,u,(by decide :([]:Str).length≤maxLen),(by decide :([]:Str).length≤maxLen),(SliceAt.nil _ _)⟩ hS ?_
 intro g8 cs9 w10 hmx13 hrow11 hS12
 obtain⟨m14,hm15⟩: ∃m,m=x5.length:=⟨_,u⟩
 rw [←hm15] at hmx13
 rw [←hm15]
 refine va u u ?_
 refine nsr ?_
 refine wl_val wn u (rv_assign (v:=.int .i64 0) u) ?_
 refine nq ?_
 obtain⟨o16,h17,h18⟩:=ob h7
 refine wc_cutg (fun E' w'=>∃(cs23:List Value) (K19:KMap) (B19:List Nat),E'=[(3,.slice (some ⟨g8,0,none⟩) m14 m14)]∧SH w K [] w' K19 [obj g8 cs23 114,bag B19]∧KLe K K19∧RowAt true tGEntry (K19.only B19) cs23 o16∧m14=o16.length) ?_ ?_
 ·refine wc_block ?_
  obtain⟨r27,h28,h29⟩:=ob h17
  refine wc_while' (fun (s26:Int×(List GEntry)) E' w'=>∃(cs36:List Value) (K30:KMap) (B30:List Nat),E'=[(0,.slice a1 n2 c3),(3,.slice (some ⟨g8,0,none⟩) m14 m14),(4,.int .i64 s26.1)]∧SH w K [] w' K30 [obj g8 cs36 114,bag B30]∧KLe K K30∧rng64 s26.1∧RowAt true tGEntry (K30.only B30) cs36 s26.2∧m14=s26.2.length) h28 ⟨cs9,K,[],u,(SH.perm (SH.bag0 hS12) (List.Perm.swap _ _ _)),(KLe.refl _),d_0,hrow11,hm15⟩ ⟨u,u,u,trivial⟩ ?_
  rintro s26 _ w33 r39 h40 hx41 ⟨cs36,K30,B30,rfl,hS34,hl31,hr35,hrow37,hm38⟩
  refine wc_seq ?_
  refine sr ?_
  refine vm u u ?_
  refine vm u u ?_
  refine wl_val wn u (rv_len (t:=tGEntry) Tryz.underlying27 u (SliceAt.mono hl31 hs4)) ?_
  refine wl_val wn u (rv_lss u u) ?_
  refine nq ?_
  refine wc_cond u (fun hb42=>?_) (fun hb42=>?_)
  ·have h43:=cond_t hb42 h40
   refine wc_skip ?_
   refine qs ?_
   refine wc_block ?_
   refine wc_region ?_
   refine vm u u ?_
   refine vm u u ?_
   refine vm u u ?_
   refine vm u u ?_
   obtain⟨x44,hx45,h46⟩:=ob h43
   refine wl_indexAddr (t:=tGEntry) wn u Tryz.underlying27 tf107 u u (SliceAt.mono hl31 hs4) hx45 ?_
   intro b47 o48 u49 hu50 ha51
   obtain⟨a54,n55,c56,rfl,hl52,hl53,hs57⟩:=hu50
   have ha58:AtK _ b47 o48 [sv x44.Field,sv x44.Term,.slice a54 n55 c56]:=ha51
   refine wl_val wn u (rv_loadS (cs:=[sv x44.Field,sv x44.Term,.slice a54 n55 c56]) tf107 u hS34 ha58 u) ?_
   obtain⟨r59,hx60,h61⟩:=ob h46
   refine wl_call wn u (rt_call (vs:=[.agg #[sv x44.Field,sv x44.Term,.slice a54 n55 c56]]) co70 u) ((bag_laws_toEntry F) hS34.enter0 hl52 hl53 hs57 hx60) ?_
   rintro e71 w63 ⟨a67,n68,c69,K62,B62,rfl,hS64,hl65,hl66,hs70⟩
   refine⟨_,u,?_⟩
   have hS72:SH _ _ _ _ _ [_,_]:=SH.bagJoin (SH.perm (SH.call0 hS34 hS64) (List.Perm.cons _ (List.Perm.swap _ _ _)))
   obtain⟨x73,hx74,h75⟩:=ob h61
   obtain⟨u76,hu77,hk78⟩:=RowAt.at (RowAt.mono (only_mono hS64.le fun _ h=>h) hrow37) hx74
   obtain⟨a82,n83,c84,rfl,hl80,hl81,hs85⟩:=hu77
   have hk79: ∀(j:Nat) (d:Value),[sv x73.Field,sv x73.Term,.slice a82 n83 c84][j]? =some d→cs36[s26.1.toNat*tGEntry.size+j]? =some d:=hk78
   refine wl_val wn u (rv_indexRow (t:=tGEntry) Tryz.underlying39 tf114 u u hm38 hx74) ?_
   have hS86:SH _ _ _ _ _ [_,_]:=SH.front (p:=[_]) hS72
   refine wl_storeRow (t:=Ty.fix tGEntry (K62.only (B62++B30))) (v:=.agg #[sv r59.Field,sv r59.Term,.slice a67 n68 c69]) (e:=r59) wn tf114 u u ⟨a67,n68,c69,u,hl65,hl66,(SliceAt.mono (only_mono (KLe.refl _) fun _ h=>List.mem_append_left _ h) hs70)⟩ hS86 (show RowAt true tGEntry (K62.only (B62++B30)) _ _ from RowAt.mono (only_mono hS64.le fun _ h=>List.mem_append_right _ h) hrow37) hx74 ?_
   intro cs87 w88 hrow89 hS90
   have hm91:=hm38.trans (List.length_set (i:=s26.1.toNat) (a:=r59)).symm
   refine nb ?_
   refine qe_seq ?_
   refine wc_region ?_
   refine vm u u ?_
   refine wl_val wn u (rv_add u u) ?_
   refine va u u ?_
   refine wl_nil ?_
   obtain rfl:=oi h75
   have hS92:=hS90
   exact qe_mid' ⟨_,u,cs87,K62,(B62++B30),u,hS92,(hl31.trans hS64.le),(w64_rng _),hrow89,hm91⟩ ⟨u,u,u,trivial⟩
  ·have h43:=cond_f hb42 h40
   refine wc_exit ?_
   refine qe_then_exit ?_
   refine qe_then_exit ?_
   obtain rfl:=oi h43
   have e93:=hx41 _ u
   subst e93
   refine qe_block_eq ?_
   obtain rfl:=oi h29
   exact qe_mid' ⟨cs36,K30,B30,u,hS34,hl31,hrow37,hm38⟩ ⟨u,trivial⟩
 ·rintro _ w21 ⟨cs23,K19,B19,rfl,hS22,hl20,hrow24,hm25⟩
  refine qr ?_
  refine vm u u ?_
  refine va u u ?_
  refine nq ?_
  refine wc_ret ?_
  obtain⟨K94,hl95,hs96,hS97⟩:=SH.freeze (t:=Ty.fix tGEntry (K19.only B19)) hS22 hrow24 (row_max hm25 hmx13)
  rw [←hm25] at hs96 hS97
  obtain rfl:=oi h18
  obtain⟨Bz,hSz,hBz⟩:=SH.bagTail hS97
  exact qe_ret (vs:=[_]) Tryz.results34 ⟨u,trivial⟩ ⟨(some ⟨g8,0,none⟩),m14,m14,K94,(Bz++B19),u,SH.bagJoin hSz,SliceAt.unfix hs96 (only_mono hl95 fun _ h=>List.mem_append_right _ h) (fun hc b o e=>List.mem_append_left _ (hBz hc b o e))⟩

theorem ok_spec_l7Put {q0:List Str}{q1:Str}{r:(List Str)}(hS:SH w K Z w K [tail (V3 A a b) 9 1])(f:SliceAt tStr K A a b q0)(T:q1.length≤maxLen)(hm:M.spec_l7Put F q0 q1=some r):
  Calls prog 148 #[V3 A a b,sv q1] w fun e w'=>∃a_1 n_2 c_3 K',e= .returned (V3 a_1 n_2 c_3)∧SH w K Z w' K' [tail (V3 a_1 n_2 c_3) 9 1]∧SliceAt tStr K' a_1 n_2 c_3 r:=by
 rw [M.spec_l7Put] at hm
 refine ci func148 u ntmps148 (sr (lv (r_n u) (nr (lv (r_0 u) (ns ?_)))))
 obtain⟨m,U,V⟩:=ob hm
 refine wc_cutg (IW w K Z K [(0,V3 A a b),(1,sv q1),(5,V6 m)] [tail (V3 A a b) 9 1] (rng64 m)) ?_ ?_
 ·refine wc_block ?_
  obtain⟨bg,W,X⟩:=ob U
  refine qw (fun (k:Int)=>IW w K Z K [(0,V3 A a b),(1,sv q1),(5,V6 k)] [tail (V3 A a b) 9 1] (rng64 k)) W ⟨K,u,hS,kr,d_0⟩ ?_
  rintro k _ bh bi Y aa ⟨o,rfl,q,l,ab⟩
  refine wc_seq (wc_seq ?_)
  obtain⟨ac,ad,ae⟩:=ob Y
  refine wc_cutg (IV w K Z o [(0,V3 A a b),(1,sv q1),(5,V6 k),(18,.bool ac)] [tail (V3 A a b) 9 1]) ?_ ?_
  ·refine wc_region (mv u (mv u (lv (rv_len underlying22 u (f.mono l)) (lv (rv_lss u u) (mv u (bt ad (fun c s=>?_) (fun c s=>?_)))))))
   ·refine lg c (rv_move u) (lg c (rv_move u) ?_)
    obtain⟨af,ag,ah⟩:=ob s
    refine wl_indexAddr (t:=tStr) (wg u u c) u underlying22 tf9 u u (f.mono l) ag fun ai aj bj ak al=>?_
    obtain⟨rfl,bk⟩:=ak
    have am:AtK _ ai aj [sv af]:=al
    refine lg c (rv_load1 tf9 u q (am 0 _ u)) (lg c (rv_move u) (lg c (rv_slss u u) (lv (rv_pick_t u c u) (wl_nil ?_))))
    cases oi ah
    exact qd ⟨o,u,q,kr⟩
   iterate 6 refine lu c ?_
   refine lv (p_f u c u) (wl_nil ?_)
   cases oi s
   exact qd ⟨o,u,q,kr⟩
  rintro _ bl ⟨H,rfl,I,J⟩
  refine qe_seq (wcc ae u (fun an x=>?_) (fun an x=>?_))
  ·refine wc_skip (qe_seq (wc_block (wc_region (mv u (lv (rv_add u u) (av u (nb ?_)))))))
   cases oi x
   exact qd ⟨_,u,H,u,I,(l.trans J),(w64_rng _)⟩
  refine wc_exit (qe_then_exit (qe_then_exit ?_))
  cases oi x
  cases aa _ u
  refine qe_block_eq ?_
  cases oi X
  exact qd ⟨H,u,I,(l.trans J),ab⟩
 rintro _ bm ⟨y,rfl,B,i,bn⟩
 refine qs (wc_seq ?_)
 obtain⟨ao,ap,aq⟩:=ob V
 refine wc_cutg (IV w K Z y [(0,V3 A a b),(1,sv q1),(5,V6 m),(32,.bool ao)] [tail (V3 A a b) 9 1]) ?_ ?_
 ·refine wc_region (mv u (mv u (lv (rv_len underlying22 u (f.mono i)) (lv (rv_lss u u) (mv u (bt ap (fun d C=>?_) (fun d C=>?_)))))))
  ·refine lg d (rv_move u) (lg d (rv_move u) ?_)
   obtain⟨ar,au,aw⟩:=ob C
   refine wl_indexAddr (t:=tStr) (wg u u d) u underlying22 tf9 u u (f.mono i) au fun ax ay bo az aA=>?_
   obtain⟨rfl,bp⟩:=az
   have aB:AtK _ ax ay [sv ar]:=aA
   refine lg d (rv_load1 tf9 u B (aB 0 _ u)) (lg d (rv_move u) (lg d (rv_seql u u) (lv (rv_pick_t u d u) (wl_nil ?_))))
   cases oi aw
   exact qd ⟨y,u,B,kr⟩
  iterate 6 refine lu d ?_
  refine lv (p_f u d u) (wl_nil ?_)
  cases oi C
  exact qd ⟨y,u,B,kr⟩
 rintro _ bq ⟨aC,rfl,O,D⟩
 refine qe_seq (wcc aq u (fun aD G=>?_) (fun aD G=>?_))
 ·refine sr (mv u (av u (nq (rr ?_))))
  cases oi G
  exact ey results148 ⟨A,a,b,aC,u,O,(f.mono (i.trans D))⟩
 refine wc_skip (qr (b0 tStr underlying22 tf9 O fun br bs bu R aE aF=>(mv u (mv u ?_))))
 obtain⟨bv,aG,aH⟩:=ob G
 refine wl_sl_h (t:=tStr) wn u underlying22 tf9 u u (f.mono ((i.trans D).trans R)) aG fun bx bz bA aI=>?_
 obtain⟨bB,aJ,aK⟩:=ob aH
 refine lp underlying22 tf9 aE aI aJ aF fun bC bD bE bF bG aL aM aN=>(av u (nr (mv u (mv u (lb tStr (sv q1) [sv q1] q1 underlying22 tf9 ⟨u,T⟩ aN fun bH bI bJ S aO aP=>?_)))))
 obtain⟨bK,aQ,aR⟩:=ob aK
 refine lp underlying22 tf9 (aM.mono S) aO aQ aP.f1 fun bL bM bN bO bP aS aT aU=>(av u (nr (mv u (mv u (mv u ?_)))))
 obtain⟨bQ,aV,aW⟩:=ob aR
 refine wl_sl_l (t:=tStr) wn u underlying22 tf9 u u (SliceAt.mono (((((i.trans D).trans R).trans aL).trans S).trans aS) f) aV fun bR bS bT aX=>?_
 obtain⟨bU,aY,aZ⟩:=ob aW
 refine lp underlying22 tf9 aT aX aY aU fun ba bb bc bV bd bW be bf=>(av u (nq (wc_ret ?_)))
 cases oi aZ
 exact ey results148 ⟨ba,bb,bc,bd,u,bf.s,be⟩

theorem ok_spec_l7Names {q0:List GDoc}{r:(List Str)}(hS:SH w K [] w K [])(S:SliceAt tGDoc K A a b q0)(hm:M.spec_l7Names F q0=some r):
  Calls prog 102 #[V3 A a b] w fun e w'=>∃a_1 n_2 c_3 K',e= .returned (V3 a_1 n_2 c_3)∧SH w K [] w' K' [tail (V3 a_1 n_2 c_3) 9 1]∧SliceAt tStr K' a_1 n_2 c_3 r:=by
 rw [M.spec_l7Names] at hm
 refine ci func102 u ntmps102 (sr (lv (r_n u) (nr (b0 tStr underlying22 tf9 hS fun a5 w6 T U ae af=>(av u (nsr (lv (r_0 u) (nq ?_))))))))
 obtain⟨ag,ah,ai⟩:=ob hm
 refine wc_cutg (fun E' w'=>∃m o q s,E'=[(3,V3 m o q)]∧SH w K [] w' s [tail (V3 m o q) 9 1]∧KLe T s∧SliceAt tStr s m o q ag) ?_ ?_
 ·refine wc_block ?_
  obtain⟨bC,aj,ak⟩:=ob ah
  refine qw (fun (d:(List Str)×Int) E' w'=>∃f i k c,E'=[(0,V3 A a b),(3,V3 f i k),(4,V6 d.2)]∧SH w K [] w' c [tail (V3 f i k) 9 1]∧KLe T c∧SliceAt tStr c f i k d.1∧rng64 d.2) aj ⟨a5,0,0,T,u,af,kr,ae,d_0⟩ ?_
  rintro d _ bD bE al am ⟨f,i,k,c,rfl,X,x,Y,bF⟩
  refine wc_seq (sr (mv u (mv u (lv (rv_len underlying38 u (S.mono (U.trans x))) (lv (rv_lss u u) (nq (wcc al u (fun an V=>?_) (fun an V=>?_))))))))
  ·refine wc_skip (qs (wc_block (sr (lv (r_0 u) (nq ?_)))))
   obtain⟨ao,ap,aq⟩:=ob V
   refine wc_cutg (fun E' w'=>∃y B C D,E'=[(0,V3 A a b),(3,V3 y B C),(4,V6 d.2)]∧SH w K [] w' D [tail (V3 y B C) 9 1]∧KLe c D∧SliceAt tStr D y B C ao) ?_ ?_
   ·refine wc_block ?_
    obtain⟨bG,ar,au⟩:=ob ap
    refine qw (fun (O:(List Str)×Int) E' w'=>∃G H I J,E'=[(0,V3 A a b),(3,V3 G H I),(4,V6 d.2),(5,V6 O.2)]∧SH w K [] w' J [tail (V3 G H I) 9 1]∧KLe c J∧SliceAt tStr J G H I O.1∧rng64 O.2) ar ⟨f,i,k,c,u,X,kr,Y,d_0⟩ ?_
    rintro O _ bH bI aw ax ⟨G,H,I,J,rfl,l,R,aa,bJ⟩
    refine wc_seq (sr (mv u (mv u (mv u ?_))))
    obtain⟨ay,az,aA⟩:=ob aw
    refine li underlying38 tf89 (S.mono ((U.trans x).trans R)) az fun aB aC bK aD aE=>?_
    obtain⟨aF,aG,aH,aI,aJ,aK,rfl,bL,aL,bM⟩:=aD
    have aM:AtK _ aB aC [V6 ay.Id,V3 aF aG aH,V3 aI aJ aK]:=aE
    refine fa ff89_1 u (lv (rv_load1 tf86 u l (aM 1 _ u)) (lv (rv_len underlying86 u aL) (lv (rv_lss u u) (nq (wcc aA u (fun aN W=>?_) (fun aN W=>?_))))))
    ·refine wc_skip (qs (wc_block (wc_region (mv u (mv u (mv u ?_))))))
     obtain⟨aO,aP,aQ⟩:=ob W
     refine li underlying38 tf89 (S.mono ((U.trans x).trans R)) aP fun aR aS bN aT aU=>?_
     obtain⟨aV,aW,aX,aY,aZ,ba,rfl,bO,bb,bP⟩:=aT
     have bc:AtK _ aR aS [V6 aO.Id,V3 aV aW aX,V3 aY aZ ba]:=aU
     refine fa ff89_1 u (lv (rv_load1 tf86 u l (bc 1 _ u)) (mv u ?_))
     obtain⟨ab,bd,be⟩:=ob aQ
     refine li underlying86 tf170 bb bd fun bf bg bQ bh bi=>?_
     obtain⟨rfl,bj,bR⟩:=bh
     have bk:AtK _ bf bg [sv ab.Name,sv ab.Text]:=bi
     refine fa ff170_0 u (lv (rv_load1 tf9 u l (bk 0 _ u)) ?_)
     obtain⟨bS,bl,bm⟩:=ob be
     refine lk co148 (ok_spec_l7Put F l.e1 aa bj bl) ?_
     rintro bT bU ⟨bn,bo,bp,bq,rfl,ac,br⟩
     have bs:=(l.c1 ac).t1
     refine av u (nb (qe_seq (wc_region (mv u (lv (rv_add u u) (av u (wl_nil ?_)))))))
     cases oi bm
     exact qd ⟨_,u,bn,bo,bp,bq,u,bs,(R.trans ac.le),br,(w64_rng _)⟩
    refine wc_exit (qe_then_exit (qe_then_exit ?_))
    cases oi W
    cases ax _ u
    refine qe_block_eq ?_
    cases oi au
    exact qd ⟨G,H,I,J,u,l,R,aa⟩
   rintro _ bV ⟨y,B,C,D,rfl,bu,bv,bx⟩
   refine qe_block (qe_seq (wc_region (mv u (lv (rv_add u u) (av u (wl_nil ?_))))))
   cases oi aq
   exact qd ⟨_,u,y,B,C,D,u,bu,(x.trans bv),bx,(w64_rng _)⟩
  refine wc_exit (qe_then_exit (qe_then_exit ?_))
  cases oi V
  cases am _ u
  refine qe_block_eq ?_
  cases oi ak
  exact qd ⟨f,i,k,c,u,X,x,Y⟩
 rintro _ bW ⟨m,o,q,s,rfl,bz,bX,bA⟩
 refine qr (mv u (av u (nq (wc_ret ?_))))
 cases oi ai
 exact ey results102 ⟨m,o,q,s,u,bz,bA⟩

theorem ok_spec_l7Posts {q0:GSeg}{q1:Str}{q2:Str}{r:(List GPost)}(hS:SH w K [] w K [])(aP:SliceAt tGDoc K A a b q0.Docs)(m:SliceAt tGEntry K B c d q0.Entries)(aQ:q1.length≤maxLen)(aR:q2.length≤maxLen)(hm:M.spec_l7Posts F q0 q1 q2=some r):
  Calls prog 66 #[.agg #[V3 A a b,V3 B c d],sv q1,sv q2] w fun e w'=>∃a_1 n_2 c_3 K',e= .returned (V3 a_1 n_2 c_3)∧SH w K [] w' K' []∧SliceAt tGPost K' a_1 n_2 c_3 r:=by
 rw [M.spec_l7Posts] at hm
 refine ci func66 u ntmps66 (sr (bx u hS fun l aS W=>?_))
 have X:SH _ _ _ _ _ [obj l [V3 A a b,V3 B c d] 41]:=W
 refine lv (r_n u) (nsr (lv (r_0 u) (nq ?_)))
 obtain⟨Y,aa,o⟩:=ob hm
 refine wc_cutg (IE Y w K [] K [] []) ?_ ?_
 ·refine wc_block ?_
  obtain⟨aT,ab,G⟩:=ob aa
  refine qw (fun (q:Int)=>IW w K [] K [(1,sv q1),(2,sv q2),(3,pt l),(7,V6 q)] [obj l [V3 A a b,V3 B c d] 41] (rng64 q)) ab ⟨K,u,X,kr,d_0⟩ ?_
  rintro q _ aU aV ac H ⟨s,rfl,i,k,aW⟩
  refine wc_seq (sr (mv u (fl ff41_1 u tf39 m0 i u (lv (rv_len underlying39 u (m.mono k)) (lv (rv_lss u u) (nq (wcc ac u (fun ad y=>?_) (fun ad y=>?_))))))))
  ·refine wc_skip (qs (wc_block (wc_seq ?_)))
   obtain⟨ae,af,ag⟩:=ob y
   refine wc_cutg (IV w K [] s [(1,sv q1),(2,sv q2),(3,pt l),(7,V6 q),(32,.bool ae)] [obj l [V3 A a b,V3 B c d] 41]) ?_ ?_
   ·refine wc_region (fl ff41_1 u tf39 m0 i u (mv u ?_))
    obtain⟨I,ah,ai⟩:=ob af
    refine li underlying39 tf114 (m.mono k) ah fun aj ak aX al am=>?_
    obtain⟨an,ao,ap,rfl,aY,aZ,ba⟩:=al
    have aq:AtK _ aj ak [sv I.Field,sv I.Term,V3 an ao ap]:=am
    refine fa ff114_0 u (lv (rv_load1 tf9 u i (aq 0 _ u)) (mv u (lv (rv_seql u u) (mv u (bt ai (fun f C=>?_) (fun f C=>?_))))))
    ·refine lg f (rv_fieldAddr ff41_1 u) (lg f (rv_loadm1 tf39 u m0 i u) (lg f (rv_move u) ?_))
     obtain⟨J,ar,au⟩:=ob C
     refine wl_indexAddr (t:=tGEntry) (wg u u f) u underlying39 tf114 u u (m.mono k) ar fun aw ax bb ay az=>?_
     obtain⟨aA,aB,aC,rfl,bc,bd,be⟩:=ay
     have aD:AtK _ aw ax [sv J.Field,sv J.Term,V3 aA aB aC]:=az
     refine lg f (rv_fieldAddr ff114_1 u) (lg f (rv_load1 tf9 u i (aD 1 _ u)) (lg f (rv_move u) (lg f (rv_seql u u) (lv (rv_pick_t u f u) (wl_nil ?_)))))
     cases oi au
     exact qd ⟨s,u,i,kr⟩
    iterate 8 refine lu f ?_
    refine lv (p_f u f u) (wl_nil ?_)
    cases oi C
    exact qd ⟨s,u,i,kr⟩
   rintro _ bf ⟨O,rfl,x,R⟩
   refine qe_seq (wcc ag u (fun aE D=>?_) (fun aE D=>?_))
   ·refine sr (fl ff41_1 u tf39 m0 x u (mv u ?_))
    obtain⟨S,aF,aG⟩:=ob D
    refine li underlying39 tf114 (m.mono (k.trans R)) aF fun aH aI bg aJ aK=>?_
    obtain⟨T,U,V,rfl,bh,bi,aL⟩:=aJ
    have aM:AtK _ aH aI [sv S.Field,sv S.Term,V3 T U V]:=aK
    refine fa ff114_2 u (lv (rv_load1 tf112 u x (aM 2 _ u)) (av u (nq (wc_ret (qe_block_ret (qe_then_ret (qe_then_ret ?_)))))))
    cases oi aG
    cases H _ u
    refine qe_block_ret (qe_then_ret ?_)
    cases oi G
    refine qe_then_ret ?_
    cases oi o
    exact ey results66 ⟨T,U,V,O,u,x.s,aL⟩
   refine wc_skip (qe_block (qe_seq (wc_region (mv u (lv (rv_add u u) (av u (wl_nil ?_)))))))
   cases oi D
   exact qd ⟨_,u,O,u,x,(k.trans R),(w64_rng _)⟩
  refine wc_exit (qe_then_exit (qe_then_exit ?_))
  cases oi y
  cases H _ u
  refine qe_block_eq ?_
  cases oi G
  exact qe_mid' ⟨_,s,u,u,i.s,k⟩ trivial
 rintro _ bj ⟨bk,aN,rfl,rfl,aO,bl⟩
 have o:=elim_l o
 refine qr (lv (r_n u) (nq (wc_ret ?_)))
 cases oi o
 exact ey results66 ⟨none,0,0,aN,u,aO,(SliceAt.nil _ _)⟩

theorem ok_spec_l12At {q0:GSeg}{q1:Str}{q2:Str}{q3:Int}{r:(List Int)}(hS:SH w K [] w K [])(J:SliceAt tGDoc K A a b q0.Docs)(O:SliceAt tGEntry K B c d q0.Entries)(R:q1.length≤maxLen)(S:q2.length≤maxLen)(aJ:rng64 q3)(hm:M.spec_l12At F q0 q1 q2 q3=some r):
  Calls prog 107 #[.agg #[V3 A a b,V3 B c d],sv q1,sv q2,V6 q3] w fun e w'=>∃a_1 n_2 c_3 K',e= .returned (V3 a_1 n_2 c_3)∧SH w K [] w' K' []∧SliceAt tInt K' a_1 n_2 c_3 r:=by
 rw [M.spec_l12At] at hm
 refine ci func107 u ntmps107 (sr (bx u hS fun T aK U=>?_))
 have l:SH _ _ _ _ _ [obj T [V3 A a b,V3 B c d] 41]:=U
 refine lv (r_n u) (nr (lv (rv_loadmS (ds:=[V3 A a b,V3 B c d]) tf41 u m0 l u u) (mv u (mv u ?_))))
 obtain⟨aL,V,W⟩:=ob hm
 refine lk co66 (ok_spec_l7Posts F l.enter0 J O R S V) ?_
 rintro aM aN ⟨X,Y,aa,m,rfl,ab,o⟩
 have ac:=(l.c0 ab).t1
 refine av u (nsr (lv (r_0 u) (nq ?_)))
 obtain⟨ad,ae,k⟩:=ob W
 refine wc_cutg (IE ad w K [] m [] []) ?_ ?_
 ·refine wc_block ?_
  obtain⟨aO,af,C⟩:=ob ae
  have ag:=ac.sb (sd sz)
  refine qw (fun (q:Int)=>IW w K [] m [(3,V6 q3),(9,V3 X Y aa),(10,V6 q)] [] (rng64 q)) af ⟨m,u,ag,kr,d_0⟩ ?_
  rintro q _ aP aQ ah D ⟨s,rfl,f,i,aR⟩
  refine wc_seq (sr (mv u (mv u (lv (rv_len underlying112 u (o.mono i)) (lv (rv_lss u u) (nq (wcc ah u (fun ai x=>?_) (fun ai x=>?_))))))))
  ·refine wc_skip (qs (wc_block (sr (mv u (mv u ?_)))))
   obtain⟨aj,ak,al⟩:=ob x
   refine li underlying112 tf119 (o.mono i) ak fun am an aS ao ap=>?_
   obtain⟨aq,ar,au,rfl,aT,aU⟩:=ao
   have aw:AtK _ am an [V6 aj.Doc,V3 aq ar au]:=ap
   refine fa ff119_0 u (lv (rv_load1 tf3 u f (aw 0 _ u)) (mv u (lv (rv_eql u u) (nq (wcc al u (fun ax y=>?_) (fun ax y=>?_))))))
   ·refine sr (mv u (mv u ?_))
    obtain⟨ay,az,aA⟩:=ob y
    refine li underlying112 tf119 (o.mono i) az fun aB aC aV aD aE=>?_
    obtain⟨G,H,I,rfl,aW,aF⟩:=aD
    have aG:AtK _ aB aC [V6 ay.Doc,V3 G H I]:=aE
    refine fa ff119_1 u (lv (rv_load1 tf117 u f (aG 1 _ u)) (av u (nq (wc_ret (qe_block_ret (qe_then_ret (qe_then_ret ?_)))))))
    cases oi aA
    cases D _ u
    refine qe_block_ret (qe_then_ret ?_)
    cases oi C
    refine qe_then_ret ?_
    cases oi k
    exact ey results107 ⟨G,H,I,s,u,f,aF⟩
   refine wc_skip (qe_block (qe_seq (wc_region (mv u (lv (rv_add u u) (av u (wl_nil ?_)))))))
   cases oi y
   exact qd ⟨_,u,s,u,f,i,(w64_rng _)⟩
  refine wc_exit (qe_then_exit (qe_then_exit ?_))
  cases oi x
  cases D _ u
  refine qe_block_eq ?_
  cases oi C
  exact qe_mid' ⟨_,s,u,u,f,i⟩ trivial
 rintro _ aX ⟨aY,aH,rfl,rfl,aI,aZ⟩
 have k:=elim_l k
 refine qr (lv (r_n u) (nq (wc_ret ?_)))
 cases oi k
 exact ey results107 ⟨none,0,0,aH,u,aI,(SliceAt.nil _ _)⟩

theorem ok_spec_l10Gcd (F:Nat): ∀{w:World} {K:KMap} {q0:Int} {q1:Int} {r:Int} (hS:SH w K [] w K []) (d:rng64 q0) (f:rng64 q1) (hm:M.spec_l10Gcd F q0 q1=some r),
  Calls prog 177 #[V6 q0,V6 q1] w (R_i w K r):=by
 induction F with
 | zero=>intros;rename_i hm;rw [M.spec_l10Gcd] at hm;cases hm
 | succ F ih=>
  intro w K q0 q1 r hS d f hm
  rw [M.spec_l10Gcd] at hm
  refine ci func177 u ntmps177 (sr (lv (r_0 u) (nsr (mv u (lv (rv_lss u u) (nq ?_))))))
  obtain⟨i,m,o⟩:=ob hm
  refine wc_cutg (IW w K [] K [(0,V6 i),(1,V6 q1)] [] (rng64 i)) ?_ ?_
  ·refine wcc m u (fun q a=>?_) (fun q a=>?_)
   ·refine wc_region (mv u (lv (rv_neg u) (av u (wl_nil ?_))))
    cases oi a
    exact qd ⟨K,u,hS,kr,(w64_rng _)⟩
   refine wc_skip ?_
   cases oi a
   exact qd ⟨K,u,hS,kr,d⟩
  rintro _ I ⟨s,rfl,b,J,k⟩
  refine qs (sr (mv u (lv (rv_eql u u) (nq (wcc o u (fun x c=>?_) (fun x c=>?_))))))
  ·refine sr (mv u (av u (nq (rr ?_))))
   cases oi c
   exact ey results177 ⟨s,u,b,k⟩
  refine wc_skip (qr (mv u (mv u (mv u ?_))))
  obtain⟨O,l,y⟩:=ob c
  refine lv (rv_rem u u l) ?_
  obtain⟨R,A,B⟩:=ob y
  refine lk co177 (ih b.enter0 f (rng_rem k l) A) ?_
  rintro S T ⟨C,rfl,D,G⟩
  have H:=(b.c0 D).t0
  refine av u (nq (wc_ret ?_))
  cases oi B
  exact ey results177 ⟨C,u,H,G⟩

theorem ok_spec_l10Make {q0:Int}{q1:Int}{r:GRat}(hS:SH w K [] w K [])(s:rng64 q0)(v:rng64 q1)(hm:M.spec_l10Make F q0 q1=some r):
  Calls prog 151 #[V6 q0,V6 q1] w fun e w'=>∃K',e= .returned (.agg #[V6 r.Up,V6 r.Down])∧SH w K [] w' K' []∧rng64 r.Up∧rng64 r.Down:=by
 rw [M.spec_l10Make] at hm
 refine ci func151 u ntmps151 (sr (al tf142 hS fun g3 S x=>?_))
 have d:SH _ _ _ _ _ [obj g3 [V6 0,V6 0] 142]:=x
 refine nsr (mv u (lv (rv_lss u u) (nq ?_)))
 obtain⟨a,y,A⟩:=ob hm
 refine wc_cutg (IW w K [] K [(0,V6 a.1),(1,V6 a.2),(4,pt g3)] [obj g3 [V6 0,V6 0] 142] (rng64 a.1∧rng64 a.2)) ?_ ?_
 ·refine wcc y u (fun B b=>?_) (fun B b=>?_)
  ·refine sr (mv u (lv (rv_neg u) (av u (nq (wc_region (mv u (lv (rv_neg u) (av u (wl_nil ?_)))))))))
   cases oi b
   exact qd ⟨K,u,d,kr,(w64_rng _),(w64_rng _)⟩
  refine wc_skip ?_
  cases oi b
  exact qd ⟨K,u,d,kr,s,v⟩
 rintro _ T ⟨U,rfl,f,V,C,D⟩
 refine qr (mv u (mv u ?_))
 obtain⟨W,G,H⟩:=ob A
 refine lk co177 (ok_spec_l10Gcd F f.enter0 C D G) ?_
 rintro X Y ⟨i,rfl,I,aa⟩
 have J:=(f.c0 I).t1
 refine av u (ns ?_)
 have k:=J.drew
 refine wh1 (fun w'=>Holds i w') (fun w'=>True) 8 [] mixed (k.hasK kr) (fun _=>trivial) (gt (rv_move u) (gt (rv_move u) ?_))
 obtain⟨l,m,O⟩:=ob H
 refine gt (rv_quo u u m) (gt (rv_move u) (gt (rv_move u) ?_))
 obtain⟨o,q,R⟩:=ob O
 refine gt (rv_quo u u q) (gt (rv_build (cs:=#[V6 l,V6 o]) sp142 tf142 u (by kernel_rfl)) (gn (lw [V6 l,V6 o] tf142 k fun ab c=>(wl_nil (qh (c.hasK kr) (fun _=>trivial) (gd' (qe_seq (wc_ret ?_))))))))
 cases oi R
 exact ez results151 tf142 c m0 ⟨i,u,c.s,(rng_quo m),(rng_quo q)⟩

theorem ok_spec_l12Rare {q0:Int}{q1:Int}{r:Int}(hS:SH w K [] w K [])(s:rng64 q0)(U:rng64 q1)(hm:M.spec_l12Rare F q0 q1=some r):
  Calls prog 152 #[V6 q0,V6 q1] w (R_i w K r):=by
 rw [M.spec_l12Rare] at hm
 refine ci func152 u ntmps152 (sr (lv (r_0 u) (nr (lv (r_0 u) (ns ?_)))))
 obtain⟨i,x,y⟩:=ob hm
 refine wc_cutg (IW w K [] K [(5,V6 i)] [] (rng64 i)) ?_ ?_
 ·refine wc_block ?_
  obtain⟨V,A,B⟩:=ob x
  refine qw (fun (b:Int×Int)=>IW w K [] K [(0,V6 b.1),(1,V6 q1),(5,V6 b.2)] [] (rng64 b.1∧rng64 b.2)) A ⟨K,u,hS,kr,s,d_0⟩ ?_
  rintro b _ W X C D ⟨c,rfl,k,l,Y,G⟩
  refine wc_seq (wc_seq ?_)
  obtain⟨H,I,J⟩:=ob C
  refine wc_cutg (IV w K [] c [(0,V6 b.1),(1,V6 q1),(5,V6 b.2),(13,.bool H)] []) ?_ ?_
  ·refine wc_region (mv u (lv (rv_gtr u u) (mv u (bt I (fun a d=>?_) (fun a d=>?_)))))
   ·refine lg a (rv_move u) (lg a (rv_mul u u) (lg a (rv_move u) (lg a (rv_leq u u) (lv (rv_pick_t u a u) (wl_nil ?_)))))
    cases oi d
    exact qd ⟨c,u,k,kr⟩
   refine lu a (lu a (lu a (lu a (lv (p_f u a u) (wl_nil ?_)))))
   cases oi d
   exact qd ⟨c,u,k,kr⟩
  rintro _ aa ⟨m,rfl,o,q⟩
  refine qe_seq (wcc J u (fun O f=>?_) (fun O f=>?_))
  ·refine wc_skip (qe_seq (wc_block (sr (mv u (lv (rv_mul u u) (av u (nq (wc_region (mv u ?_)))))))))
   refine lv (rv_add u u) (av u (nb ?_))
   cases oi f
   exact qd ⟨_,u,m,u,o,(l.trans q),(w64_rng _),(w64_rng _)⟩
  refine wc_exit (qe_then_exit (qe_then_exit ?_))
  cases oi f
  cases D _ u
  refine qe_block_eq ?_
  cases oi B
  exact qd ⟨m,u,o,(l.trans q),G⟩
 rintro _ w9 ⟨R,rfl,S,ac,T⟩
 refine qr (mv u (av u (nq (wc_ret ?_))))
 cases oi y
 exact ey results152 ⟨R,u,S,T⟩

theorem ok_spec_l12Term {q0:Int}{q1:Int}{q2:Int}{q3:Int}{q4:Int}{r:GRat}(hS:SH w K [] w K [])(U:rng64 q0)(V:rng64 q1)(W:rng64 q2)(o:rng64 q3)(q:rng64 q4)(hm:M.spec_l12Term F q0 q1 q2 q3 q4=some r):
  Calls prog 108 #[V6 q0,V6 q1,V6 q2,V6 q3,V6 q4] w fun e w'=>∃K',e= .returned (.agg #[V6 r.Up,V6 r.Down])∧SH w K [] w' K' []∧rng64 r.Up∧rng64 r.Down:=by
 rw [M.spec_l12Term] at hm
 refine ci func108 u ntmps108 (sr (al tf142 hS fun a X s=>?_))
 have c:SH _ _ _ _ _ [obj a [V6 0,V6 0] 142]:=s
 refine nr (lv (rv_assign (v:=V6 1) u) (nsr (mv u (lv (rv_gtr u u) (nq ?_)))))
 obtain⟨d,x,y⟩:=ob hm
 refine wc_cutg (IW w K [] K [(0,V6 q0),(3,V6 q3),(4,V6 q4),(10,pt a),(11,V6 d)] [obj a [V6 0,V6 0] 142] (rng64 d)) ?_ ?_
 ·refine wcc x u (fun A b=>?_) (fun A b=>?_)
  ·refine wc_region (mv u (mv u (lv (rv_mul u u) (lv (rv_mul u u) (mv u ?_)))))
   obtain⟨Y,f,B⟩:=ob b
   refine lv (rv_quo u u f) (av u (wl_nil ?_))
   cases oi B
   exact qd ⟨K,u,c,kr,(rng_quo f)⟩
  refine wc_skip ?_
  cases oi b
  exact qd ⟨K,u,c,kr,(by decide :rng64 1)⟩
 rintro _ aa ⟨ab,rfl,i,ac,ad⟩
 refine qr (mv u (mv u ?_))
 obtain⟨ae,C,D⟩:=ob y
 refine lk co152 (ok_spec_l12Rare F i.enter0 q o C) ?_
 rintro af ag ⟨ah,rfl,G,ai⟩
 have k:=(i.c0 G).t1
 refine lv (rv_add u u) (lv (rv_mul u u) (mv u (lv (rv_mul u u) (mv u (lv (rv_mul u u) (lv (rv_add u u) (mv u (lv (rv_add u u) ?_))))))))
 obtain⟨l,H,I⟩:=ob D
 refine lk co151 (ok_spec_l10Make F k.enter0 (w64_rng _) (w64_rng _) H) ?_
 rintro aj ak ⟨J,rfl,O,R,S⟩
 have T:=(k.c0 O).t1
 refine lw [V6 l.Up,V6 l.Down] tf142 T fun am m=>(nq (wc_ret ?_))
 cases oi I
 exact ez results108 tf142 m m0 ⟨J,u,m.s,R,S⟩

theorem ok_spec_l7Long {q0:GSeg}{q1:Str}{q2:Int}{r:Int}(hS:SH w K [] w K [])(bX:SliceAt tGDoc K A a b q0.Docs)(x:SliceAt tGEntry K B c d q0.Entries)(bY:q1.length≤maxLen)(bZ:rng64 q2)(hm:M.spec_l7Long F q0 q1 q2=some r):
  Calls prog 109 #[.agg #[V3 A a b,V3 B c d],sv q1,V6 q2] w (R_i w K r):=by
 rw [M.spec_l7Long] at hm
 refine ci func109 u ntmps109 (sr (bx u hS fun i ca ab=>?_))
 have ac:SH _ _ _ _ _ [obj i [V3 A a b,V3 B c d] 41]:=ab
 refine lv (r_0 u) (nr (lv (r_0 u) (nsr (lv (r_0 u) (nq ?_)))))
 obtain⟨S,ad,ae⟩:=ob hm
 refine wc_cutg (IW w K [] K [(7,V6 S)] [] (rng64 S)) ?_ ?_
 ·refine wc_block ?_
  obtain⟨cb,af,ag⟩:=ob ad
  refine qw (fun (l:Int×Int)=>IW w K [] K [(1,sv q1),(2,V6 q2),(3,pt i),(7,V6 l.1),(8,V6 l.2)] [obj i [V3 A a b,V3 B c d] 41] (rng64 l.1∧rng64 l.2)) af ⟨K,u,ac,kr,d_0,d_0⟩ ?_
  rintro l _ cc cd ah ai ⟨C,rfl,D,m,T,ce⟩
  refine wc_seq (sr (mv u (fl ff41_1 u tf39 m0 D u (lv (rv_len underlying39 u (x.mono m)) (lv (rv_lss u u) (nq (wcc ah u (fun aj G=>?_) (fun aj G=>?_))))))))
  ·refine wc_skip (qs (wc_block (sr (lv (r_0 u) (nq ?_)))))
   obtain⟨U,ak,al⟩:=ob G
   refine wc_cutg (IW w K [] C [(1,sv q1),(2,V6 q2),(3,pt i),(7,V6 U),(8,V6 l.2)] [obj i [V3 A a b,V3 B c d] 41] (rng64 U)) ?_ ?_
   ·refine wc_block ?_
    obtain⟨cf,am,an⟩:=ob ak
    refine qw (fun (o:Int×Int)=>IW w K [] C [(1,sv q1),(2,V6 q2),(3,pt i),(7,V6 o.1),(8,V6 l.2),(9,V6 o.2)] [obj i [V3 A a b,V3 B c d] 41] (rng64 o.1∧rng64 o.2)) am ⟨C,u,D,kr,T,d_0⟩ ?_
    rintro o _ cg ch ao ap ⟨H,rfl,s,q,V,cj⟩
    refine wc_seq (wc_seq ?_)
    obtain⟨aq,ar,au⟩:=ob ao
    refine wc_cutg (IV w K [] H [(1,sv q1),(2,V6 q2),(3,pt i),(7,V6 o.1),(8,V6 l.2),(9,V6 o.2),(35,.bool aq)] [obj i [V3 A a b,V3 B c d] 41]) ?_ ?_
    ·refine wc_region (mv u (fl ff41_1 u tf39 m0 s u (mv u ?_)))
     obtain⟨W,aw,ax⟩:=ob ar
     refine li underlying39 tf114 (x.mono (m.trans q)) aw fun ay az ck aA aB=>?_
     obtain⟨aC,aD,aE,rfl,cl,cm,aF⟩:=aA
     have aG:AtK _ ay az [sv W.Field,sv W.Term,V3 aC aD aE]:=aB
     refine fa ff114_2 u (lv (rv_load1 tf112 u s (aG 2 _ u)) (lv (rv_len underlying112 u aF) (lv (rv_lss u u) (mv u (bt ax (fun f I=>?_) (fun f I=>?_))))))
     ·refine lg f (rv_fieldAddr ff41_1 u) (lg f (rv_loadm1 tf39 u m0 s u) (lg f (rv_move u) ?_))
      obtain⟨X,aH,aI⟩:=ob I
      refine wl_indexAddr (t:=tGEntry) (wg u u f) u underlying39 tf114 u u (x.mono (m.trans q)) aH fun aJ aK cn aL aM=>?_
      obtain⟨aN,aO,aP,rfl,cp,cq,cr⟩:=aL
      have aQ:AtK _ aJ aK [sv X.Field,sv X.Term,V3 aN aO aP]:=aM
      refine lg f (rv_fieldAddr ff114_0 u) (lg f (rv_load1 tf9 u s (aQ 0 _ u)) (lg f (rv_move u) (lg f (rv_seql u u) (lv (rv_pick_t u f u) (wl_nil ?_)))))
      cases oi aI
      exact qd ⟨H,u,s,kr⟩
     iterate 8 refine lu f ?_
     refine lv (p_f u f u) (wl_nil ?_)
     cases oi I
     exact qd ⟨H,u,s,kr⟩
    rintro _ cs ⟨J,rfl,k,y⟩
    refine qe_seq (wcc au u (fun aR O=>?_) (fun aR O=>?_))
    ·refine wc_skip (qs (wc_block (sr (fl ff41_1 u tf39 m0 k u (mv u ?_)))))
     obtain⟨Y,aS,aT⟩:=ob O
     refine li underlying39 tf114 (x.mono ((m.trans q).trans y)) aS fun aU aV ct aW aX=>?_
     obtain⟨aY,aZ,ba,rfl,cu,cv,bb⟩:=aW
     have bc:AtK _ aU aV [sv Y.Field,sv Y.Term,V3 aY aZ ba]:=aX
     refine fa ff114_2 u (lv (rv_load1 tf112 u k (bc 2 _ u)) (mv u ?_))
     obtain⟨bd,be,bf⟩:=ob aT
     refine li underlying112 tf119 bb be fun bg bh cw bi bj=>?_
     obtain⟨bk,bl,bm,rfl,cx,cy⟩:=bi
     have bn:AtK _ bg bh [V6 bd.Doc,V3 bk bl bm]:=bj
     refine fa ff119_0 u (lv (rv_load1 tf3 u k (bn 0 _ u)) (mv u (lv (rv_eql u u) (nq (wcc bf u (fun bo R=>?_) (fun bo R=>?_))))))
     ·refine wc_region (mv u (fl ff41_1 u tf39 m0 k u (mv u ?_)))
      obtain⟨aa,bp,bq⟩:=ob R
      refine li underlying39 tf114 (x.mono ((m.trans q).trans y)) bp fun br bs cz bu bv=>?_
      obtain⟨bz,bA,bB,rfl,cA,cB,bC⟩:=bu
      have bD:AtK _ br bs [sv aa.Field,sv aa.Term,V3 bz bA bB]:=bv
      refine fa ff114_2 u (lv (rv_load1 tf112 u k (bD 2 _ u)) (mv u ?_))
      obtain⟨bE,bF,bG⟩:=ob bq
      refine li underlying112 tf119 bC bF fun bH bI cC bJ bK=>?_
      obtain⟨bL,bM,bN,rfl,cD,bO⟩:=bJ
      have bP:AtK _ bH bI [V6 bE.Doc,V3 bL bM bN]:=bK
      refine fa ff119_1 u (lv (rv_load1 tf117 u k (bP 1 _ u)) (lv (rv_len underlying117 u bO) (lv (rv_add u u) (av u (nb (qe_seq (wc_region (mv u (lv (rv_add u u) ?_)))))))))
      refine av u (wl_nil ?_)
      cases oi bG
      exact qd ⟨_,u,J,u,k,(q.trans y),(w64_rng _),(w64_rng _)⟩
     refine wc_skip (qe_block (qe_seq (wc_region (mv u (lv (rv_add u u) (av u (wl_nil ?_)))))))
     cases oi R
     exact qd ⟨_,u,J,u,k,(q.trans y),V,(w64_rng _)⟩
    refine wc_exit (qe_then_exit (qe_then_exit ?_))
    cases oi O
    cases ap _ u
    refine qe_block_eq ?_
    cases oi an
    exact qd ⟨J,u,k,(q.trans y),V⟩
   rintro _ cE ⟨bQ,rfl,bR,bS,bT⟩
   refine qe_block (qe_seq (wc_region (mv u (lv (rv_add u u) (av u (wl_nil ?_))))))
   cases oi al
   exact qd ⟨_,u,bQ,u,bR,(m.trans bS),bT,(w64_rng _)⟩
  refine wc_exit (qe_then_exit (qe_then_exit ?_))
  cases oi G
  cases ai _ u
  refine qe_block_eq ?_
  cases oi ag
  exact qd ⟨C,u,D.s,m,T⟩
 rintro _ cF ⟨bU,rfl,bV,cG,bW⟩
 refine qr (mv u (av u (nq (wc_ret ?_))))
 cases oi ae
 exact ey results109 ⟨bU,u,bV,bW⟩

theorem ok_spec_l12Total {q0:GSeg}{q1:Str}{r:Int}(hS:SH w K [] w K [])(bv:SliceAt tGDoc K A a b q0.Docs)(x:SliceAt tGEntry K B c d q0.Entries)(bz:q1.length≤maxLen)(hm:M.spec_l12Total F q0 q1=some r):
  Calls prog 110 #[.agg #[V3 A a b,V3 B c d],sv q1] w (R_i w K r):=by
 rw [M.spec_l12Total] at hm
 refine ci func110 u ntmps110 (sr (bx u hS fun i bA X=>?_))
 have Y:SH _ _ _ _ _ [obj i [V3 A a b,V3 B c d] 41]:=X
 refine lv (r_0 u) (nr (lv (r_0 u) (nsr (lv (r_0 u) (nq ?_)))))
 obtain⟨O,aa,ab⟩:=ob hm
 refine wc_cutg (IW w K [] K [(5,V6 O)] [] (rng64 O)) ?_ ?_
 ·refine wc_block ?_
  obtain⟨bB,ac,ad⟩:=ob aa
  refine qw (fun (k:Int×Int)=>IW w K [] K [(1,sv q1),(2,pt i),(5,V6 k.1),(6,V6 k.2)] [obj i [V3 A a b,V3 B c d] 41] (rng64 k.1∧rng64 k.2)) ac ⟨K,u,Y,kr,d_0,d_0⟩ ?_
  rintro k _ bC bD ae af ⟨y,rfl,C,m,R,bE⟩
  refine wc_seq (sr (mv u (fl ff41_1 u tf39 m0 C u (lv (rv_len underlying39 u (x.mono m)) (lv (rv_lss u u) (nq (wcc ae u (fun ag D=>?_) (fun ag D=>?_))))))))
  ·refine wc_skip (qs (wc_block (sr (lv (r_0 u) (nq ?_)))))
   obtain⟨S,ah,ai⟩:=ob D
   refine wc_cutg (IW w K [] y [(1,sv q1),(2,pt i),(5,V6 S),(6,V6 k.2)] [obj i [V3 A a b,V3 B c d] 41] (rng64 S)) ?_ ?_
   ·refine wc_block ?_
    obtain⟨bF,aj,ak⟩:=ob ah
    refine qw (fun (l:Int×Int)=>IW w K [] y [(1,sv q1),(2,pt i),(5,V6 l.1),(6,V6 k.2),(7,V6 l.2)] [obj i [V3 A a b,V3 B c d] 41] (rng64 l.1∧rng64 l.2)) aj ⟨y,u,C,kr,R,d_0⟩ ?_
    rintro l _ bG bH al am ⟨G,rfl,o,q,an,bI⟩
    refine wc_seq (wc_seq ?_)
    obtain⟨ao,ap,aq⟩:=ob al
    refine wc_cutg (IV w K [] G [(1,sv q1),(2,pt i),(5,V6 l.1),(6,V6 k.2),(7,V6 l.2),(33,.bool ao)] [obj i [V3 A a b,V3 B c d] 41]) ?_ ?_
    ·refine wc_region (mv u (fl ff41_1 u tf39 m0 o u (mv u ?_)))
     obtain⟨T,ar,au⟩:=ob ap
     refine li underlying39 tf114 (x.mono (m.trans q)) ar fun aw ax bJ ay az=>?_
     obtain⟨aA,aB,aC,rfl,bK,bL,aD⟩:=ay
     have aE:AtK _ aw ax [sv T.Field,sv T.Term,V3 aA aB aC]:=az
     refine fa ff114_2 u (lv (rv_load1 tf112 u o (aE 2 _ u)) (lv (rv_len underlying112 u aD) (lv (rv_lss u u) (mv u (bt au (fun f H=>?_) (fun f H=>?_))))))
     ·refine lg f (rv_fieldAddr ff41_1 u) (lg f (rv_loadm1 tf39 u m0 o u) (lg f (rv_move u) ?_))
      obtain⟨U,aF,aG⟩:=ob H
      refine wl_indexAddr (t:=tGEntry) (wg u u f) u underlying39 tf114 u u (x.mono (m.trans q)) aF fun aH aI bM aJ aK=>?_
      obtain⟨aL,aM,aN,rfl,bN,bO,bP⟩:=aJ
      have aO:AtK _ aH aI [sv U.Field,sv U.Term,V3 aL aM aN]:=aK
      refine lg f (rv_fieldAddr ff114_0 u) (lg f (rv_load1 tf9 u o (aO 0 _ u)) (lg f (rv_move u) (lg f (rv_seql u u) (lv (rv_pick_t u f u) (wl_nil ?_)))))
      cases oi aG
      exact qd ⟨G,u,o,kr⟩
     iterate 8 refine lu f ?_
     refine lv (p_f u f u) (wl_nil ?_)
     cases oi H
     exact qd ⟨G,u,o,kr⟩
    rintro _ bQ ⟨V,rfl,s,I⟩
    refine qe_seq (wcc aq u (fun aP J=>?_) (fun aP J=>?_))
    ·refine wc_skip (qs (wc_block (wc_region (mv u (fl ff41_1 u tf39 m0 s u (mv u ?_))))))
     obtain⟨W,aQ,aR⟩:=ob J
     refine li underlying39 tf114 (x.mono ((m.trans q).trans I)) aQ fun aS aT bR aU aV=>?_
     obtain⟨aW,aX,aY,rfl,bS,bT,aZ⟩:=aU
     have ba:AtK _ aS aT [sv W.Field,sv W.Term,V3 aW aX aY]:=aV
     refine fa ff114_2 u (lv (rv_load1 tf112 u s (ba 2 _ u)) (mv u ?_))
     obtain⟨bb,bc,bd⟩:=ob aR
     refine li underlying112 tf119 aZ bc fun be bf bU bg bh=>?_
     obtain⟨bi,bj,bk,rfl,bV,bl⟩:=bg
     have bm:AtK _ be bf [V6 bb.Doc,V3 bi bj bk]:=bh
     refine fa ff119_1 u (lv (rv_load1 tf117 u s (bm 1 _ u)) (lv (rv_len underlying117 u bl) (lv (rv_add u u) (av u (nb (qe_seq (wc_region (mv u (lv (rv_add u u) ?_)))))))))
     refine av u (wl_nil ?_)
     cases oi bd
     exact qd ⟨_,u,V,u,s,(q.trans I),(w64_rng _),(w64_rng _)⟩
    refine wc_exit (qe_then_exit (qe_then_exit ?_))
    cases oi J
    cases am _ u
    refine qe_block_eq ?_
    cases oi ak
    exact qd ⟨V,u,s,(q.trans I),an⟩
   rintro _ bW ⟨bn,rfl,bo,bp,bq⟩
   refine qe_block (qe_seq (wc_region (mv u (lv (rv_add u u) (av u (wl_nil ?_))))))
   cases oi ai
   exact qd ⟨_,u,bn,u,bo,(m.trans bp),bq,(w64_rng _)⟩
  refine wc_exit (qe_then_exit (qe_then_exit ?_))
  cases oi D
  cases af _ u
  refine qe_block_eq ?_
  cases oi ad
  exact qd ⟨y,u,C.s,m,R⟩
 rintro _ bX ⟨br,rfl,bs,bY,bu⟩
 refine qr (mv u (av u (nq (wc_ret ?_))))
 cases oi ab
 exact ey results110 ⟨br,u,bs,bu⟩

theorem ok_spec_l12Points {q0:GSeg}{q1:Str}{q2:Str}{q3:Int}{r:Int}(hS:SH w K [] w K [])(l:SliceAt tGDoc K A a b q0.Docs)(o:SliceAt tGEntry K B c d q0.Entries)(q:q1.length≤maxLen)(G:q2.length≤maxLen)(ar:rng64 q3)(hm:M.spec_l12Points F q0 q1 q2 q3=some r):
  Calls prog 67 #[.agg #[V3 A a b,V3 B c d],sv q1,sv q2,V6 q3] w (R_i w K r):=by
 rw [M.spec_l12Points] at hm
 refine ci func67 u ntmps67 (sr (bx u hS fun aO bL ba=>?_))
 have au:SH _ _ _ _ _ [obj aO [V3 A a b,V3 B c d] 41]:=ba
 refine lv (r_0 u) (nr (lv (rv_loadmS (ds:=[V3 A a b,V3 B c d]) tf41 u m0 au u u) (mv u (mv u (mv u ?_)))))
 obtain⟨bM,bb,bc⟩:=ob hm
 refine lk co107 (ok_spec_l12At F au.enter0 l o q G ar bb) ?_
 rintro bN bO ⟨bP,bQ,bR,aw,rfl,i,D⟩
 have aP:=(au.c0 i).t1
 refine lv (rv_len underlying117 u D) (av u (nsr (mv u (lv (rv_eql u u) (nq (wcc bc u (fun bd ax=>?_) (fun bd ax=>?_)))))))
 ·refine sr (lv (r_0 u) (nq (rr ?_)))
  cases oi ax
  exact ey results67 ⟨aw,u,aP.s,d_0⟩
 refine wc_skip (qs ?_)
 obtain⟨X,be,bf⟩:=ob ax
 refine wc_cutg (fun E' w'=>∃ay Y,E'=[(10,pt ay)]∧SH w K [] w' Y [obj ay [V6 X.Up,V6 X.Down] 142]∧KLe aw Y∧rng64 X.Up∧rng64 X.Down) ?_ ?_
 ·obtain⟨bS,aQ,bg⟩:=ob be
  obtain⟨bT,az,bh⟩:=ob bg
  obtain⟨bU,aa,bi⟩:=ob bh
  obtain⟨s,H,I⟩:=ob bi
  have J:=aP.drew
  refine j_0 (fun w'=>Holds aw w'∧HasObj aO [V3 A a b,V3 B c d] w') 19 [] mixed ⟨J.hasK kr,J.hasObj m0⟩ (jv 0 u (rv_move u) (jh 1 u (fun _ h=>rh_loadmS (ds:=[V3 A a b,V3 B c d]) tf41 u u u h.2) (jv 2 u (rv_move u) (jv 3 u (rv_move u) (jh 5 u (fun _ h=>rh_loadmS (ds:=[V3 A a b,V3 B c d]) tf41 u u u h.2) (jv 6 u (rv_move u) (jv 8 u (rv_fieldAddr ff41_0 u) (jh 9 u (fun _ h=>rh_loadm1 tf38 u u h.2) (jv 10 u (rv_len underlying38 u (l.mono i.le)) ?_)))))))))
  refine jh 11 u (fun _ h=>rh_loadmS (ds:=[V3 A a b,V3 B c d]) tf41 u u u h.2) (jv 12 u (rv_move u) (jv 13 u (rv_move u) (j2 4 17 u u ?_ ?_)))
  ·refine lk co109 (ok_spec_l7Long F J.enter0 (l.mono i.le) (o.mono i.le) q ar aQ) ?_
   rintro bV bW ⟨bX,rfl,f,ab⟩
   have O:=(J.c0 f).t1
   refine j_o ⟨O.hasK f.le,O.hasObj m0⟩ (j2 7 17 u u ?_ ?_)
   ·refine lk co110 (ok_spec_l12Total F O.enter0 (l.mono (i.le.trans f.le)) (o.mono (i.le.trans f.le)) q az) ?_
    rintro bY bZ ⟨ca,rfl,k,aA⟩
    have R:=(O.c0 k).t1
    refine j_o ⟨R.hasK (f.le.trans k.le),R.hasObj m0⟩ (j2 14 17 u u ?_ ?_)
    ·refine lk co66 (ok_spec_l7Posts F R.enter0 (l.mono ((i.le.trans f.le).trans k.le)) (o.mono ((i.le.trans f.le).trans k.le)) q G aa) ?_
     rintro cb cc ⟨cd,ce,cf,cg,rfl,x,aB⟩
     have S:=(R.c0 x).t1
     refine j_o ⟨S.hasK ((f.le.trans k.le).trans x.le),S.hasObj m0⟩ (jv 15 u (rv_len underlying112 u aB) (j2 16 17 u u ?_ ?_))
     ·refine lk co108 (ok_spec_l12Term F S.enter0 D.rn ab aA (l.mono i.le).rn aB.rn H) ?_
      rintro ch cj ⟨bj,rfl,T,bk,bl⟩
      have aC:=(S.c0 T).t1
      refine j_o ⟨aC.hasK (((f.le.trans k.le).trans x.le).trans T.le),aC.hasObj m0⟩ (j1 17 u (al tf142 aC fun aR ck bm=>?_))
      have aD:SH _ _ _ _ _ [obj aR [V6 0,V6 0] 142,_]:=bm
      refine j_o ⟨aD.hasK (((f.le.trans k.le).trans x.le).trans T.le),aD.hasObj m1⟩ (j1 18 u (lw [V6 s.Up,V6 s.Down] tf142 aD fun cl aE=>(j_o ⟨aE.hasK (((f.le.trans k.le).trans x.le).trans T.le),aE.hasObj m1⟩ (jd ?_))))
      cases oi I
      exact qd ⟨aR,bj,u,aE.s,(((f.le.trans k.le).trans x.le).trans T.le),bk,bl⟩
     refine al tf142 S fun aS cm bn=>?_
     have ac:SH _ _ _ _ _ [obj aS [V6 0,V6 0] 142,_]:=bn
     refine j_o ⟨ac.hasK ((f.le.trans k.le).trans x.le),ac.hasObj m1⟩ (j1 16 u (lk co108 (ok_spec_l12Term F ac.enter0 D.rn ab aA (l.mono i.le).rn aB.rn H) ?_))
     rintro cn cp ⟨bo,rfl,ad,bp,bq⟩
     have aF:=(ac.c0 ad).t2
     refine j_o ⟨aF.hasK (((f.le.trans k.le).trans x.le).trans ad.le),aF.hasObj m1⟩ (j1 18 u (lw [V6 s.Up,V6 s.Down] tf142 aF fun cq aG=>(j_o ⟨aG.hasK (((f.le.trans k.le).trans x.le).trans ad.le),aG.hasObj m1⟩ (jd ?_))))
     cases oi I
     exact qd ⟨aS,bo,u,aG.s,(((f.le.trans k.le).trans x.le).trans ad.le),bp,bq⟩
    refine al tf142 R fun aT cr br=>?_
    have ae:SH _ _ _ _ _ [obj aT [V6 0,V6 0] 142,_]:=br
    refine j_o ⟨ae.hasK (f.le.trans k.le),ae.hasObj m1⟩ (j1 14 u (lk co66 (ok_spec_l7Posts F ae.enter0 (l.mono ((i.le.trans f.le).trans k.le)) (o.mono ((i.le.trans f.le).trans k.le)) q G aa) ?_))
    rintro cs ct ⟨cu,cv,cw,cx,rfl,U,aU⟩
    have af:=(ae.c0 U).t2
    refine j_o ⟨af.hasK ((f.le.trans k.le).trans U.le),af.hasObj m1⟩ (jv 15 u (rv_len underlying112 u aU) (j1 16 u (lk co108 (ok_spec_l12Term F af.enter0 D.rn ab aA (l.mono i.le).rn aU.rn H) ?_)))
    rintro cy cz ⟨bs,rfl,ag,bu,bv⟩
    have aH:=(af.c0 ag).t2
    refine j_o ⟨aH.hasK (((f.le.trans k.le).trans U.le).trans ag.le),aH.hasObj m1⟩ (j1 18 u (lw [V6 s.Up,V6 s.Down] tf142 aH fun cA aI=>(j_o ⟨aI.hasK (((f.le.trans k.le).trans U.le).trans ag.le),aI.hasObj m1⟩ (jd ?_))))
    cases oi I
    exact qd ⟨aT,bs,u,aI.s,(((f.le.trans k.le).trans U.le).trans ag.le),bu,bv⟩
   refine al tf142 O fun aV cB bz=>?_
   have ah:SH _ _ _ _ _ [obj aV [V6 0,V6 0] 142,_]:=bz
   refine j_o ⟨ah.hasK f.le,ah.hasObj m1⟩ (j1 7 u (lk co110 (ok_spec_l12Total F ah.enter0 (l.mono (i.le.trans f.le)) (o.mono (i.le.trans f.le)) q az) ?_))
   rintro cC cD ⟨cE,rfl,y,bA⟩
   have ai:=(ah.c0 y).t2
   refine j_o ⟨ai.hasK (f.le.trans y.le),ai.hasObj m1⟩ (j1 14 u (lk co66 (ok_spec_l7Posts F ai.enter0 (l.mono ((i.le.trans f.le).trans y.le)) (o.mono ((i.le.trans f.le).trans y.le)) q G aa) ?_))
   rintro cF cG ⟨cH,cI,cJ,cK,rfl,V,aW⟩
   have aj:=(ai.c0 V).t2
   refine j_o ⟨aj.hasK ((f.le.trans y.le).trans V.le),aj.hasObj m1⟩ (jv 15 u (rv_len underlying112 u aW) (j1 16 u (lk co108 (ok_spec_l12Term F aj.enter0 D.rn ab bA (l.mono i.le).rn aW.rn H) ?_)))
   rintro cL cM ⟨bB,rfl,ak,bC,bD⟩
   have aJ:=(aj.c0 ak).t2
   refine j_o ⟨aJ.hasK (((f.le.trans y.le).trans V.le).trans ak.le),aJ.hasObj m1⟩ (j1 18 u (lw [V6 s.Up,V6 s.Down] tf142 aJ fun cN aK=>(j_o ⟨aK.hasK (((f.le.trans y.le).trans V.le).trans ak.le),aK.hasObj m1⟩ (jd ?_))))
   cases oi I
   exact qd ⟨aV,bB,u,aK.s,(((f.le.trans y.le).trans V.le).trans ak.le),bC,bD⟩
  refine al tf142 J fun aX cO bE=>?_
  have am:SH _ _ _ _ _ [obj aX [V6 0,V6 0] 142,_]:=bE
  refine j_o ⟨am.hasK kr,am.hasObj m1⟩ (j1 4 u (lk co109 (ok_spec_l7Long F am.enter0 (l.mono i.le) (o.mono i.le) q ar aQ) ?_))
  rintro cP cQ ⟨cR,rfl,m,bF⟩
  have an:=(am.c0 m).t2
  refine j_o ⟨an.hasK m.le,an.hasObj m1⟩ (j1 7 u (lk co110 (ok_spec_l12Total F an.enter0 (l.mono (i.le.trans m.le)) (o.mono (i.le.trans m.le)) q az) ?_))
  rintro cS cT ⟨cU,rfl,C,bG⟩
  have ao:=(an.c0 C).t2
  refine j_o ⟨ao.hasK (m.le.trans C.le),ao.hasObj m1⟩ (j1 14 u (lk co66 (ok_spec_l7Posts F ao.enter0 (l.mono ((i.le.trans m.le).trans C.le)) (o.mono ((i.le.trans m.le).trans C.le)) q G aa) ?_))
  rintro cV cW ⟨cX,cY,cZ,da,rfl,W,aY⟩
  have ap:=(ao.c0 W).t2
  refine j_o ⟨ap.hasK ((m.le.trans C.le).trans W.le),ap.hasObj m1⟩ (jv 15 u (rv_len underlying112 u aY) (j1 16 u (lk co108 (ok_spec_l12Term F ap.enter0 D.rn bF bG (l.mono i.le).rn aY.rn H) ?_)))
  rintro db dc ⟨bH,rfl,aq,bI,bJ⟩
  have aL:=(ap.c0 aq).t2
  refine j_o ⟨aL.hasK (((m.le.trans C.le).trans W.le).trans aq.le),aL.hasObj m1⟩ (j1 18 u (lw [V6 s.Up,V6 s.Down] tf142 aL fun dd aM=>(j_o ⟨aM.hasK (((m.le.trans C.le).trans W.le).trans aq.le),aM.hasObj m1⟩ (jd ?_))))
  cases oi I
  exact qd ⟨aX,bH,u,aM.s,(((m.le.trans C.le).trans W.le).trans aq.le),bI,bJ⟩
 rintro _ de ⟨ay,Y,rfl,aN,df,dg,dh⟩
 refine qr (fl ff142_0 u tf3 m0 aN u (lv (rv_mul u u) (fl ff142_1 u tf3 m0 aN u ?_)))
 obtain⟨di,aZ,bK⟩:=ob bf
 refine lv (rv_quo u u aZ) (av u (nq (wc_ret ?_)))
 cases oi bK
 exact ey results67 ⟨Y,u,aN.s,(rng_quo aZ)⟩

theorem ok_spec_l14Blocks {q0:GSeg}{q1:Str}{q2:Str}{r:(List GBlock)}(hS:SH w K [] w K [])(aa:SliceAt tGDoc K A a b q0.Docs)(ab:SliceAt tGEntry K B c d q0.Entries)(ac:q1.length≤maxLen)(ad:q2.length≤maxLen)(hm:M.spec_l14Blocks F q0 q1 q2=some r):
  Calls prog 31 #[.agg #[V3 A a b,V3 B c d],sv q1,sv q2] w fun e w'=>∃a_1 n_2 c_3 K',e= .returned (V3 a_1 n_2 c_3)∧SH w K [] w' K' [tail (V3 a_1 n_2 c_3) 73 2]∧SliceAt tGBlock K' a_1 n_2 c_3 r:=by
 rw [M.spec_l14Blocks] at hm
 refine ci func31 rfl ntmps31 (sr (bx rfl hS fun C ck aF=>?_))
 have aG:SH _ _ _ _ _ [obj C [V3 A a b,V3 B c d] 41]:=aF
 refine lv (r_n rfl) (nr (wl_buildSlice0R tGBlock wn rfl underlying32 tf73 aG fun aH cl ae=>(av rfl (nr (lv (rv_loadmS (ds:=[V3 A a b,V3 B c d]) tf41 rfl m1 ae rfl rfl) (mv rfl (mv rfl ?_)))))))
 obtain⟨cm,aI,aJ⟩:=ob hm
 refine lk co66 (ok_spec_l7Posts F ae.enter0 aa ab ac ad aI) ?_
 rintro cn cp ⟨ao,ap,aq,af,rfl,D,ag⟩
 have aK:=(ae.c0 D).t2
 refine av rfl (nsr (lv (r_0 rfl) (nq ?_)))
 obtain⟨ar,aL,aM⟩:=ob aJ
 refine wc_cutg (fun E' w'=>∃W G X cs41 Y,E'=[(7,V3 W G X)]∧SH w K [] w' Y [rowI (V3 W G X) cs41 73 2]∧KLe af Y∧RowAt true tGBlock Y cs41 ar∧G=ar.length) ?_ ?_
 ·refine wc_block ?_
  obtain⟨cq,aN,aO⟩:=ob aL
  refine qw (fun (q:(List GBlock)×Int) E' w'=>∃H s I cs55 J,E'=[(1,sv q1),(2,sv q2),(3,pt C),(7,V3 H s I),(8,V3 ao ap aq),(9,V6 q.2)]∧SH w K [] w' J [obj C [V3 A a b,V3 B c d] 41,rowI (V3 H s I) cs55 73 2]∧KLe af J∧RowAt true tGBlock J cs55 q.1∧s=q.1.length∧rng64 q.2) aN ⟨aH,0,0,[],af,rfl,aK.f1,kr,(RowAt.nil tGBlock _),rfl,d_0⟩ ?_
  rintro q _ cr ct aP aQ ⟨H,s,I,cs55,J,rfl,ah,f,hrow56,hm57,cu⟩
  refine wc_seq (sr (mv rfl (mv rfl (lv (rv_len underlying112 rfl (ag.mono f)) (lv (rv_lss rfl rfl) (nq (wcc aP rfl (fun aR ai=>?_) (fun aR ai=>?_))))))))
  ·refine wc_skip (qs (wc_block (wc_seq (wc_quiet mixed (by kernel_rfl) ah (kh (rq_loadmS (ds:=[V3 A a b,V3 B c d]) tf41 rfl m0 rfl rfl) (km rfl (km rfl (km rfl (km rfl ?_)))))))))
   obtain⟨aS,aT,aU⟩:=ob ai
   refine ki underlying112 tf119 (ag.mono f) aT fun aV aW cv aX aY=>?_
   obtain⟨aZ,ba,bb,rfl,au,cw⟩:=aX
   have bc:AtK _ aV aW [V6 aS.Doc,V3 aZ ba bb]:=aY
   refine kv (rv_fieldAddr ff119_0 rfl) (kh (rq_load1 tf3 rfl (bc 0 _ rfl)) ?_)
   obtain⟨l,aw,bd⟩:=ob aU
   refine kd co67 (fun _ _ be ax=>(ok_spec_l12Points F) be.enter0 (aa.mono ((D.le.trans f).trans ax)) (ab.mono ((D.le.trans f).trans ax)) ac ad au aw) ?_
   obtain⟨_,_,_,⟨_,_,_,bf⟩,_⟩:=(ok_spec_l12Points F) ah.enter0 (aa.mono (D.le.trans f)) (ab.mono (D.le.trans f)) ac ad au aw []
   refine kv (rv_assign rfl) (wq_nil ?_)
   rintro cx ⟨ay,az,O⟩
   refine qs (sr (mv rfl ?_))
   obtain⟨cy,bg,bh⟩:=ob bd
   refine lv (rv_rem rfl rfl bg) (lv (rv_eql rfl rfl) (nq ?_))
   obtain⟨m,bi,bj⟩:=ob bh
   refine wc_cutg (fun E' w'=>∃R x S cs104 y,E'=[(1,sv q1),(2,sv q2),(3,pt C),(7,V3 R x S),(8,V3 ao ap aq),(9,V6 q.2),(10,V6 l)]∧SH w K [] w' y [obj C [V3 A a b,V3 B c d] 41,rowI (V3 R x S) cs104 73 2]∧KLe ay y∧RowAt true tGBlock y cs104 m∧x=m.length) ?_ ?_
   ·refine wcc bi rfl (fun bk aj=>?_) (fun bk aj=>?_)
    ·refine wc_region (mv rfl (lv (rv_build (cs:=#[V6 0,V6 0]) sp73 tf73 rfl (by kernel_rfl)) (lb tGBlock (.agg #[V6 0,V6 0]) [V6 0,V6 0] (GBlock.mk (0:Int) (0:Int)) underlying32 tf73 ⟨rfl,d_0,d_0⟩ az fun cz cA bl aA bm bn=>?_)))
     obtain⟨cB,bo,bp⟩:=ob aj
     refine wl_appendR (t:=tGBlock) wn rfl underlying32 tf73 rfl rfl rfl rfl (RowAt.mono (O.trans aA) hrow56) hm57 bm bo bn.f2 fun bq br bs cs122 cC hrow124 hm125 bu=>(av rfl (wl_nil ?_))
     cases oi bp
     exact qd ⟨bq,br,bs,cs122,bl,rfl,bu.f2.s,aA,hrow124,hm125⟩
    refine wc_skip ?_
    cases oi aj
    exact qd ⟨H,s,I,cs55,ay,rfl,az,kr,(RowAt.mono O hrow56),hm57⟩
   rintro _ cD ⟨R,x,S,cs104,y,rfl,ak,al,hrow105,hm106⟩
   refine qr (mv rfl (lv (rv_lenRow underlying32 rfl hm106) (lv (rv_sub rfl rfl) (av rfl (nr (mv rfl (mv rfl (mv rfl (mv rfl ?_)))))))))
   obtain⟨o,bv,bz⟩:=ob bj
   refine li underlying112 tf119 (ag.mono ((f.trans O).trans al)) bv fun bA bB cE bC bD=>?_
   obtain⟨bE,bF,bG,rfl,bH,cF⟩:=bC
   have bI:AtK _ bA bB [V6 o.Doc,V3 bE bF bG]:=bD
   refine fa ff119_0 rfl (lv (rv_load1 tf3 rfl ak (bI 0 _ rfl)) ?_)
   obtain⟨i,T,bJ⟩:=ob bz
   obtain⟨cG,aB⟩:=SH.rowI_at ak m1 hm106 T
   obtain⟨cH,bK,bL⟩:=RowAt.at hrow105 T
   obtain⟨rfl,cI,bM⟩:=bK
   have bN: ∀(j:Nat) (d:Value),[V6 i.Last,V6 i.Most][j]? =some d→cs104[(w64 ((m.length:Int)-(1:Int))).toNat*tGBlock.size+j]? =some d:=bL
   refine lv (rv_indexI (t:=tGBlock) underlying32 tf73 rfl rfl aB hm106 T) (fa ff73_0 rfl (wl_storeI (t:=tGBlock) (off:=0) (ds:=[V6 i.Last,V6 i.Most]) (v:=V6 o.Doc) (u:=.agg #[V6 o.Doc,V6 i.Most]) (e:=(GBlock.mk o.Doc i.Most)) wn tf3 rfl rfl rfl rfl (by simp [Value.cells,Value.oneCell']) aB ak.f1 hrow105 hm106 T bN rfl rfl ⟨rfl,bH,bM⟩ fun cs155 cJ hrow157 hm158 U=>?_))
   have bO:=getI_set (e:=(GBlock.mk o.Doc i.Most)) T
   obtain⟨cK,bP,bQ⟩:=RowAt.at hrow157 bO
   obtain⟨rfl,cL,cM⟩:=bP
   have cN: ∀(j:Nat) (d:Value),[V6 ((GBlock.mk o.Doc i.Most).Last),V6 ((GBlock.mk o.Doc i.Most).Most)][j]? =some d→cs155[(w64 ((m.length:Int)-(1:Int))).toNat*tGBlock.size+j]? =some d:=bQ
   refine nr (mv rfl (mv rfl (mv rfl ?_)))
   obtain⟨aC,am,bR⟩:=ob bJ
   obtain⟨cO,aD⟩:=SH.rowI_at U m0 hm158 am
   obtain⟨cP,bS,bT⟩:=RowAt.at hrow157 am
   obtain⟨rfl,cQ,cR⟩:=bS
   have bU: ∀(j:Nat) (d:Value),[V6 aC.Last,V6 aC.Most][j]? =some d→cs155[(w64 ((m.length:Int)-(1:Int))).toNat*tGBlock.size+j]? =some d:=bT
   refine lv (rv_indexI (t:=tGBlock) underlying32 tf73 rfl rfl aD hm158 am) (fa ff73_1 rfl (lv (rh_loadI1 tf3 rfl rfl (bU 1 _ rfl) aD (SH.hasRow U (.head _))) (lv (rv_gtr rfl rfl) (nq (wcc bR rfl (fun bV an=>?_) (fun bV an=>?_))))))
   ·refine wc_region (mv rfl (mv rfl (mv rfl ?_)))
    obtain⟨k,V,bW⟩:=ob an
    obtain⟨cS,aE⟩:=SH.rowI_at U m0 hm158 V
    obtain⟨cT,bX,bY⟩:=RowAt.at hrow157 V
    obtain⟨rfl,bZ,cU⟩:=bX
    have ca: ∀(j:Nat) (d:Value),[V6 k.Last,V6 k.Most][j]? =some d→cs155[(w64 ((m.length:Int)-(1:Int))).toNat*tGBlock.size+j]? =some d:=bY
    refine lv (rv_indexI (t:=tGBlock) underlying32 tf73 rfl rfl aE hm158 V) (fa ff73_1 rfl (wl_storeI (t:=tGBlock) (off:=1) (ds:=[V6 k.Last,V6 k.Most]) (v:=V6 l) (u:=.agg #[V6 k.Last,V6 l]) (e:=(GBlock.mk k.Last l)) wn tf3 rfl rfl rfl rfl (by simp [Value.cells,Value.oneCell']) aE U hrow157 hm158 V ca rfl rfl ⟨rfl,bZ,bf⟩ fun cs191 cV hrow193 hm194 cb=>?_))
    have cc:=getI_set (e:=(GBlock.mk k.Last l)) V
    obtain⟨cW,cd,ce⟩:=RowAt.at hrow193 cc
    obtain⟨rfl,cX,cY⟩:=cd
    have cZ: ∀(j:Nat) (d:Value),[V6 ((GBlock.mk k.Last l).Last),V6 ((GBlock.mk k.Last l).Most)][j]? =some d→cs191[(w64 ((m.length:Int)-(1:Int))).toNat*tGBlock.size+j]? =some d:=ce
    refine nb (qe_seq (wc_region (mv rfl (lv (rv_add rfl rfl) (av rfl (wl_nil ?_))))))
    cases oi bW
    exact qd ⟨_,rfl,R,x,S,cs191,y,rfl,cb.f1,((f.trans O).trans al),hrow193,hm194,(w64_rng _)⟩
   refine wc_skip (qe_block (qe_seq (wc_region (mv rfl (lv (rv_add rfl rfl) (av rfl (wl_nil ?_)))))))
   cases oi an
   exact qd ⟨_,rfl,R,x,S,cs155,y,rfl,U.f1,((f.trans O).trans al),hrow157,hm158,(w64_rng _)⟩
  refine wc_exit (qe_then_exit (qe_then_exit ?_))
  cases oi ai
  cases aQ _ rfl
  refine qe_block_eq ?_
  cases oi aO
  exact qd ⟨H,s,I,cs55,J,rfl,ah.s,f,hrow56,hm57⟩
 rintro _ da ⟨W,G,X,cs41,Y,rfl,cf,db,hrow42,hm43⟩
 refine qr (mv rfl (av rfl (nq (wc_ret ?_))))
 obtain⟨cg,dc,ch,cj⟩:=SH.freezeI cf hrow42 hm43
 cases oi aM
 exact ey results31 ⟨W,G,X,cg,rfl,cj,ch⟩

theorem ok_impl_Seg_posts__ofGScorer1 {q0:GScorer}{q1:Str}{q2:Str}{r:(List GPost)}(hS:SH w K Z w K [obj g1 [V3 A a b,V3 B c d,V3 C f i,V3 D k l] 69])(aC:SliceAt tStr K A a b q0.c_.Stops)(aD:SliceAt tGSyn K B c d q0.c_.Syns)(aE:SliceAt tGDoc K C f i q0.s_.Docs)(O:SliceAt tGEntry K D k l q0.s_.Entries)(aF:q1.length≤maxLen)(aG:q2.length≤maxLen)(hm:M.impl_Seg_posts__ofGScorer1 F q0 q1 q2=some r):
  Calls prog 76 #[.pointer (some ⟨g1,2,none⟩),sv q1,sv q2] w fun e w'=>∃a_1 n_2 c_3 K',e= .returned (V3 a_1 n_2 c_3)∧SH w K Z w' K' [obj g1 [V3 A a b,V3 B c d,V3 C f i,V3 D k l] 69]∧SliceAt tGPost K' a_1 n_2 c_3 r:=by
 rw [M.impl_Seg_posts__ofGScorer1] at hm
 refine ci func76 u ntmps76 (sr (lv (r_n u) (nsr (mv u (lv (rv_nilCheck u) (fl ff41_1 u tf39 m0 hS u (lv (rv_len underlying39 u O) (lv (r_m u) (nq ?_)))))))))
 obtain⟨ab,ac,s⟩:=ob hm
 refine wc_cutg (IE ab w K Z K [(0,.pointer (some ⟨g1,2,none⟩))] [obj g1 [V3 A a b,V3 B c d,V3 C f i,V3 D k l] 69]) ?_ ?_
 ·refine wc_block ?_
  obtain⟨aH,ad,W⟩:=ob ac
  refine qf (fun (R:Nat) (X:Unit)=>IV w K Z K [(0,.pointer (some ⟨g1,2,none⟩)),(1,sv q1),(2,sv q2),(12,V3 D k l),(13,V6 (q0.s_.Entries.length:Int)),(14,V6 ((R:Nat):Int))] [obj g1 [V3 A a b,V3 B c d,V3 C f i,V3 D k l] 69]) ad ⟨K,u,hS,kr⟩ ?_ ?_
  ·rintro R X _ ae aI hi38 af ag ⟨q,rfl,x,y⟩
   refine sr (lv (rv_lss u u) (ns (wc_cond_t u (decide_eq_true (by omega)) (wc_skip (qe_seq (wc_seq (wc_block (sr ?_))))))))
   obtain⟨o,ah,ai⟩:=ob af
   refine li underlying39 tf114 (O.mono y) ah fun aj ak aJ am an=>?_
   obtain⟨G,H,I,rfl,aK,aL,ao⟩:=am
   have ap:AtK _ aj ak [sv o.Field,sv o.Term,V3 G H I]:=an
   refine lv (rv_loadS tf114 u x ap u) (al tf114 x fun S aM aq=>?_)
   have ar:SH _ _ _ _ _ [obj S [sv [],sv [],V3 none 0 0] 114,_]:=aq
   refine lw [sv o.Field,sv o.Term,V3 G H I] tf114 ar fun aN J=>(ns ?_)
   obtain⟨au,aw,ax⟩:=ob ai
   refine wc_cutg (IV w K Z q [(0,.pointer (some ⟨g1,2,none⟩)),(1,sv q1),(2,sv q2),(8,pt S),(12,V3 D k l),(13,V6 (q0.s_.Entries.length:Int)),(14,V6 ((R:Nat):Int)),(27,.bool au)] [obj g1 [V3 A a b,V3 B c d,V3 C f i,V3 D k l] 69,obj S [sv o.Field,sv o.Term,V3 G H I] 114]) ?_ ?_
   ·refine wc_region (fl ff114_0 u tf9 m0 J u (mv u (lv (rv_seql u u) (mv u (bt aw (fun m T=>?_) (fun m T=>?_))))))
    ·refine lg m (rv_fieldAddr ff114_1 u) (lg m (rv_loadm1 tf9 u m0 J u) (lg m (rv_move u) (lg m (rv_seql u u) (lv (rv_pick_t u m u) (wl_nil ?_)))))
     cases oi T
     exact qd ⟨q,u,J.f1,kr⟩
    refine lu m (lu m (lu m (lu m (lv (p_f u m u) (wl_nil ?_)))))
    cases oi T
    exact qd ⟨q,u,J.f1,kr⟩
   rintro _ aO ⟨Y,rfl,U,aa⟩
   refine qe_seq (wcc ax u (fun ay V=>?_) (fun ay V=>?_))
   ·refine sr (fl ff114_2 u tf112 m1 U u (av u (nq (wc_ret (qe_block_ret (qe_then_ret (qe_then_ret ?_)))))))
    cases oi V
    cases ag _ u
    refine qe_block_ret (qe_then_ret ?_)
    cases oi W
    refine qe_then_ret ?_
    cases oi s
    exact ey results76 ⟨G,H,I,Y,u,U.s,(ao.mono aa)⟩
   refine wc_skip (qe_block (qg (lv (rv_add_to u u (w64_succ hi38 (SliceAt.max O))) (mv u (wl_nil ?_)))))
   cases oi V
   exact qd ⟨_,u,Y,u,U.s,(y.trans aa)⟩
  rintro X _ ae az ⟨q,rfl,x,y⟩
  subst az
  refine sr (lv (rv_lss u u) (ns (wc_cond_f u (decide_eq_false (by omega)) (wc_exit (qe_then_exit (qe_then_exit (qe_block_eq ?_)))))))
  cases oi W
  exact qd ⟨_,q,u,u,x,y⟩
 rintro _ aP ⟨aQ,aA,rfl,rfl,aB,aR⟩
 have s:=elim_l s
 refine qr (lv (r_n u) (nq (wc_ret ?_)))
 cases oi s
 exact ey results76 ⟨none,0,0,aA,u,aB,(SliceAt.nil _ _)⟩

theorem ok_impl_scorer_places {q0:GScorer}{q1:Str}{q2:Str}{q3:Int}{r:(List Int)}(hS:SH w K Z w K [obj g1 [V3 A a b,V3 B c d,V3 C f i,V3 D k l] 69])(V:SliceAt tStr K A a b q0.c_.Stops)(W:SliceAt tGSyn K B c d q0.c_.Syns)(X:SliceAt tGDoc K C f i q0.s_.Docs)(Y:SliceAt tGEntry K D k l q0.s_.Entries)(aa:q1.length≤maxLen)(ab:q2.length≤maxLen)(aJ:rng64 q3)(hm:M.impl_scorer_places F q0 q1 q2 q3=some r):
  Calls prog 90 #[.pointer (some ⟨g1,0,none⟩),sv q1,sv q2,V6 q3] w fun e w'=>∃a_1 n_2 c_3 K',e= .returned (V3 a_1 n_2 c_3)∧SH w K Z w' K' [obj g1 [V3 A a b,V3 B c d,V3 C f i,V3 D k l] 69]∧SliceAt tInt K' a_1 n_2 c_3 r:=by
 rw [M.impl_scorer_places] at hm
 refine ci func90 u ntmps90 (sr (lv (r_n u) (nsr (mv u (lv (rv_nilCheck u) (fa ff69_1 u (mv u (mv u ?_))))))))
 obtain⟨ac,ad,ae⟩:=ob hm
 refine lk co76 (ok_impl_Seg_posts__ofGScorer1 F hS.e1 V W X Y aa ab ad) ?_
 rintro aK aL ⟨af,ag,ah,y,rfl,ai,G⟩
 have aj:=(hS.c1 ai).t1
 refine lv (rv_len underlying112 u G) (lv (r_m u) (nq ?_))
 obtain⟨ak,am,m⟩:=ob ae
 refine wc_cutg (IE ak w K Z y [(0,pt g1)] [obj g1 [V3 A a b,V3 B c d,V3 C f i,V3 D k l] 69]) ?_ ?_
 ·refine wc_block ?_
  obtain⟨aM,an,R⟩:=ob am
  refine qf (fun (S:Nat) (T:Unit)=>IV w K Z y [(0,pt g1),(3,V6 q3),(16,V3 af ag ah),(17,V6 (ac.length:Int)),(18,V6 ((S:Nat):Int))] [obj g1 [V3 A a b,V3 B c d,V3 C f i,V3 D k l] 69]) an ⟨y,u,aj,kr⟩ ?_ ?_
  ·rintro S T _ ao aN hi51 ap aq ⟨o,rfl,q,s⟩
   refine sr (lv (rv_lss u u) (ns (wc_cond_t u (decide_eq_true (by omega)) (wc_skip (qe_seq (wc_seq (wc_block (sr ?_))))))))
   obtain⟨U,ar,au⟩:=ob ap
   refine li underlying112 tf119 (G.mono s) ar fun aw ax aO ay az=>?_
   obtain⟨H,I,J,rfl,aP,aA⟩:=ay
   have aB:AtK _ aw ax [V6 U.Doc,V3 H I J]:=az
   refine lv (rv_loadS tf119 u q aB u) (al tf119 q fun aC aQ aD=>?_)
   have aE:SH _ _ _ _ _ [obj aC [V6 0,V3 none 0 0] 119,_]:=aD
   refine lw [V6 U.Doc,V3 H I J] tf119 aE fun aR x=>(nr (fl ff119_0 u tf3 m0 x u (mv u (lv (rv_eql u u) (nq (wcc au u (fun aF O=>?_) (fun aF O=>?_)))))))
   ·refine sr (fl ff119_1 u tf117 m0 x u (av u (nq (wc_ret (qe_block_ret (qe_then_ret (qe_then_ret ?_)))))))
    cases oi O
    cases aq _ u
    refine qe_block_ret (qe_then_ret ?_)
    cases oi R
    refine qe_then_ret ?_
    cases oi m
    exact ey results90 ⟨H,I,J,o,u,x.s,aA⟩
   refine wc_skip (qe_block (qg (lv (rv_add_to u u (w64_succ hi51 (SliceAt.max G))) (mv u (wl_nil ?_)))))
   cases oi O
   exact qd ⟨_,u,o,u,x.s,s⟩
  rintro T _ ao aG ⟨o,rfl,q,s⟩
  subst aG
  refine sr (lv (rv_lss u u) (ns (wc_cond_f u (decide_eq_false (by omega)) (wc_exit (qe_then_exit (qe_then_exit (qe_block_eq ?_)))))))
  cases oi R
  exact qd ⟨_,o,u,u,q,s⟩
 rintro _ aS ⟨aT,aH,rfl,rfl,aI,aU⟩
 have m:=elim_l m
 refine qr (lv (r_n u) (nq (wc_ret ?_)))
 cases oi m
 exact ey results90 ⟨none,0,0,aH,u,aI,(SliceAt.nil _ _)⟩

theorem ok_laws_eqHit {q0:GHit}{q1:GHit}{r:Bool}(hS:SH w K [] w K [])(q:rng64 q0.Doc)(s:rng64 q0.Points)(x:rng64 q1.Doc)(y:rng64 q1.Points)(hm:M.laws_eqHit F q0 q1=some r):
  Calls prog 57 #[.agg #[V6 q0.Doc,V6 q0.Points],.agg #[V6 q1.Doc,V6 q1.Points]] w (R_b w K r):=by
 rw [M.laws_eqHit] at hm
 refine ci func57 u ntmps57 (sr (bx u hS fun f A i=>?_))
 have k:SH _ _ _ _ _ [obj f [V6 q0.Doc,V6 q0.Points] 92]:=i
 refine bx u k fun l B m=>?_
 have a:SH _ _ _ _ _ [obj l [V6 q1.Doc,V6 q1.Points] 92,_]:=m
 refine lv (r_f u) (nsr (fl ff92_0 u tf3 m1 a u (fl ff92_0 u tf3 m0 a u (lv (rv_neq u u) (nq (wc_cond u (fun b=>?_) (fun b=>?_)))))))
 ·have c:=cond_t b hm
  refine sr (lv (r_f u) (nq (rr ?_)))
  cases oi c
  exact ey results57 ⟨K,u,a.s⟩
 have c:=cond_f b hm
 refine wc_skip (qs (sr (fl ff92_1 u tf3 m1 a u (fl ff92_1 u tf3 m0 a u (lv (rv_neq u u) (nq (wcc c u (fun o d=>?_) (fun o d=>?_))))))))
 ·refine sr (lv (r_f u) (nq (rr ?_)))
  cases oi d
  exact ey results57 ⟨K,u,a.s⟩
 refine wc_skip (qr (lv (r_t u) (nq (wc_ret ?_))))
 cases oi d
 exact ey results57 ⟨K,u,a.s⟩

theorem ok_laws_eqHitS {q0:List GHit}{q1:List GHit}{r:Bool}(hS:SH w K [] w K [])(k:SliceAt tGHit K A a b q0)(x:SliceAt tGHit K B c d q1)(hm:M.laws_eqHitS F q0 q1=some r):
  Calls prog 22 #[V3 A a b,V3 B c d] w (R_b w K r):=by
 rw [M.laws_eqHitS] at hm
 refine ci func22 u ntmps22 (sr (lv (r_f u) (nsr (mv u (lv (rv_len underlying51 u k) (mv u (lv (rv_len underlying51 u x) (lv (rv_neq u u) (nq ?_)))))))))
 refine wc_cond u (fun l=>?_) (fun l=>?_)
 ·have m:=cond_t l hm
  refine sr (lv (r_f u) (nq (rr ?_)))
  cases oi m
  exact ey results22 ⟨K,u,hS⟩
 have m:=cond_f l hm
 refine wc_skip (qs (sr (lv (r_0 u) (nq ?_))))
 obtain⟨O,R,i⟩:=ob m
 refine wc_cutg (IE O w K [] K [] []) ?_ ?_
 ·refine wc_block ?_
  obtain⟨az,S,y⟩:=ob R
  refine qw (fun (o:Int)=>IW w K [] K [(0,V3 A a b),(1,V3 B c d),(5,V6 o)] [] (rng64 o)) S ⟨K,u,hS,kr,d_0⟩ ?_
  rintro o _ aA aB T C ⟨U,rfl,D,f,aC⟩
  refine wc_seq (sr (mv u (mv u (lv (rv_len underlying51 u (k.mono f)) (lv (rv_lss u u) (nq (wcc T u (fun V q=>?_) (fun V q=>?_))))))))
  ·refine wc_skip (qs (wc_block (wc_seq (wc_quiet mixed (by kernel_rfl) D (km u (km u ?_))))))
   obtain⟨G,W,X⟩:=ob q
   refine ki underlying51 tf92 (k.mono f) W fun Y aa aD ab ac=>?_
   obtain⟨rfl,ad,ae⟩:=ab
   have af:AtK _ Y aa [V6 G.Doc,V6 G.Points]:=ac
   refine kh (rq_loadS tf92 u af u) (km u (km u ?_))
   obtain⟨H,ag,ah⟩:=ob X
   refine ki underlying51 tf92 (x.mono f) ag fun ai aj aE ak al=>?_
   obtain⟨rfl,am,an⟩:=ak
   have ao:AtK _ ai aj [V6 H.Doc,V6 H.Points]:=al
   refine kh (rq_loadS tf92 u ao u) ?_
   obtain⟨aF,ap,aq⟩:=ob ah
   refine kc co57 (fun _ _ ar aG=>(ok_laws_eqHit F) ar.enter0 ad ae am an ap) (kv (rv_not u) (wq_nil ?_))
   rintro aH ⟨I,J,au⟩
   refine qe_seq (wcc aq u (fun aw s=>?_) (fun aw s=>?_))
   ·refine sr (lv (r_f u) (nq (wc_ret (qe_block_ret (qe_then_ret (qe_then_ret ?_))))))
    cases oi s
    cases C _ u
    refine qe_block_ret (qe_then_ret ?_)
    cases oi y
    refine qe_then_ret ?_
    cases oi i
    exact ey results22 ⟨I,u,J⟩
   refine wc_skip (qe_block (qe_seq (wc_region (mv u (lv (rv_add u u) (av u (wl_nil ?_)))))))
   cases oi s
   exact qd ⟨_,u,I,u,J,(f.trans au),(w64_rng _)⟩
  refine wc_exit (qe_then_exit (qe_then_exit ?_))
  cases oi q
  cases C _ u
  refine qe_block_eq ?_
  cases oi y
  exact qe_mid' ⟨_,U,u,u,D,f⟩ trivial
 rintro _ aI ⟨aJ,ax,rfl,rfl,ay,aK⟩
 have i:=elim_l i
 refine qr (lv (r_t u) (nq (wc_ret ?_)))
 cases oi i
 exact ey results22 ⟨ax,u,ay⟩

theorem ok_laws_heldHitS {q0:List GHit}{q1:Int}{r:Int}(hS:SH w K [] w K [])(o:SliceAt tGHit K A a b q0)(G:rng64 q1)(hm:M.laws_heldHitS F q0 q1=some r):
  Calls prog 26 #[V3 A a b,V6 q1] w (R_i w K r):=by
 rw [M.laws_heldHitS] at hm
 refine ci func26 u ntmps26 (sr (lv (r_0 u) (nsr (lv (r_0 u) (nq ?_)))))
 obtain⟨H,I,d⟩:=ob hm
 refine wc_cutg (fun E' w'=>∃k l,H= .inl k∧E'=[(1,V6 k)]∧SH w K [] w' l []∧KLe K l∧rng64 k) ?_ ?_
 ·refine wc_block ?_
  obtain⟨am,J,q⟩:=ob I
  refine qw (fun (f:Int×Int)=>IW w K [] K [(0,V3 A a b),(1,V6 f.1),(5,V6 f.2)] [] (rng64 f.1∧rng64 f.2)) J ⟨K,u,hS,kr,G,d_0⟩ ?_
  rintro f _ an ao O s ⟨m,rfl,c,i,R,ap⟩
  refine wc_seq (sr (mv u (mv u (lv (rv_len underlying51 u (o.mono i)) (lv (rv_lss u u) (nq (wcc O u (fun S x=>?_) (fun S x=>?_))))))))
  ·refine wc_skip (qs (wc_block (wc_seq (sr (mv u (mv u ?_))))))
   obtain⟨C,T,U⟩:=ob x
   refine li underlying51 tf92 (o.mono i) T fun V W aq X Y=>?_
   obtain⟨rfl,ar,au⟩:=X
   have aa:AtK _ V W [V6 C.Doc,V6 C.Points]:=Y
   refine fa ff92_0 u (lv (rv_load1 tf3 u c (aa 0 _ u)) (mv u (lv (rv_neq u u) (nq (wcc U u (fun ab y=>?_) (fun ab y=>?_))))))
   ·refine sr (lv (rv_assign (v:=V6 (-1)) u) (nq (rr (qe_block_ret (qe_then_ret (qe_then_ret ?_))))))
    cases oi y
    cases s _ u
    refine qe_block_ret (qe_then_ret ?_)
    cases oi q
    refine qe_then_ret ?_
    cases oi d
    exact ey results26 ⟨m,u,c,(by decide :rng64 (-1))⟩
   refine wc_skip (qr (mv u (lv (rv_add u u) (av u (nsr (mv u (mv u ?_)))))))
   obtain⟨D,ac,ad⟩:=ob y
   refine li underlying51 tf92 (o.mono i) ac fun ae af aw ag ah=>?_
   obtain⟨rfl,ax,ay⟩:=ag
   have ai:AtK _ ae af [V6 D.Doc,V6 D.Points]:=ah
   refine fa ff92_1 u (lv (rv_load1 tf3 u c (ai 1 _ u)) (mv u (lv (rv_neq u u) (nq (wcc ad u (fun aj B=>?_) (fun aj B=>?_))))))
   ·refine sr (lv (rv_assign (v:=V6 (-1)) u) (nq (rr (qe_block_ret (qe_then_ret (qe_then_ret ?_))))))
    cases oi B
    cases s _ u
    refine qe_block_ret (qe_then_ret ?_)
    cases oi q
    refine qe_then_ret ?_
    cases oi d
    exact ey results26 ⟨m,u,c,(by decide :rng64 (-1))⟩
   refine wc_skip (qe_seq (wc_region (mv u (lv (rv_add u u) (av u (nb (qe_seq (wc_region (mv u ?_)))))))))
   refine lv (rv_add u u) (av u (wl_nil ?_))
   cases oi B
   exact qd ⟨_,u,m,u,c,i,(w64_rng _),(w64_rng _)⟩
  refine wc_exit (qe_then_exit (qe_then_exit ?_))
  cases oi x
  cases s _ u
  refine qe_block_eq ?_
  cases oi q
  exact qd ⟨_,m,u,u,c,i,R⟩
 rintro _ az ⟨k,l,rfl,rfl,ak,aA,al⟩
 have d:=elim_l d
 refine qr (mv u (av u (nq (wc_ret ?_))))
 cases oi d
 exact ey results26 ⟨l,u,ak,al⟩
end Go.Proofs.YtfiahfncijjliaaGreatDoor
