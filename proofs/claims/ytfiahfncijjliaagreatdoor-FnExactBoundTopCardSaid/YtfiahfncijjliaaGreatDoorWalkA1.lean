/-
 Walks of the functions. Printed by gen.py.
-/
import Derived.Test.YtfiahfncijjliaaGreatDoorFacts
set_option linter.unusedVariables false
set_option linter.unusedSectionVars false
set_option maxRecDepth 100000
namespace Go.Proofs.YtfiahfncijjliaaGreatDoor
set_option maxHeartbeats 4000000
open Go Go.Fk Go.RowKit Tryz
variable (F:Nat){w:World}{K:KMap}{Z:List Nat}{g1 g2 g3:Nat}{A B C D G H I J O R S T:Option Addr}{a b c d f i k l m n o p q s v x y aa ab ac ad ae af ag:Nat}
variable [dr:Dr]

theorem ok_laws_szStringS {q0:List Str}{q1:Int}{r:Int}(hS:SH w K [] w K [])(m:SliceAt tStr K A a b q0)(ad:rng64 q1)(hm:M.laws_szStringS F q0 q1=some r):
  Calls prog 18 #[V3 A a b,V6 q1] w (R_i w K r):=by
 rw [M.laws_szStringS] at hm
 refine ci func18 u ntmps18 (sr (lv (r_0 u) (nr (mv u (mv u (lv (rv_len underlying22 u m) (lv (rv_sub u u) (av u (nsr ?_)))))))))
 refine mv u (lv (rv_lss u u) (nq (wc_cond u (fun o=>?_) (fun o=>?_))))
 ·have q:=cond_t o hm
  refine sr (lv (rv_assign (v:=V6 (-1)) u) (nq (rr ?_)))
  cases oi q
  exact ey results18 ⟨K,u,hS,(by decide :rng64 (-1))⟩
 have q:=cond_f o hm
 refine wc_skip (qs (sr (lv (r_0 u) (nq ?_))))
 obtain⟨D,G,d⟩:=ob q
 refine wc_cutg (fun E' w'=>∃f i,D= .inl f∧E'=[(1,V6 f)]∧SH w K [] w' i []∧KLe K i∧rng64 f) ?_ ?_
 ·refine wc_block ?_
  obtain⟨ae,H,B⟩:=ob G
  refine qw (fun (c:Int×Int)=>IW w K [] K [(0,V3 A a b),(1,V6 c.1),(5,V6 c.2)] [] (rng64 c.1∧rng64 c.2)) H ⟨K,u,hS,kr,(w64_rng _),d_0⟩ ?_
  rintro c _ af ag I C ⟨s,rfl,k,l,J,ah⟩
  refine wc_seq (sr (mv u (mv u (lv (rv_len underlying22 u (m.mono l)) (lv (rv_lss u u) (nq (wcc I u (fun O x=>?_) (fun O x=>?_))))))))
  ·refine wc_skip (qs (wc_block (sr (mv u (mv u (mv u ?_))))))
   obtain⟨R,S,T⟩:=ob x
   refine li underlying22 tf9 (m.mono l) S fun U V ai W X=>?_
   obtain⟨rfl,aj⟩:=W
   have Y:AtK _ U V [sv R]:=X
   refine lv (rv_load1 tf9 u k (Y 0 _ u)) (lv (rv_slen underlying9 u) (lv (rv_sub u u) (av u (nr (mv u (lv (rv_lss u u) (nq (wcc T u (fun aa y=>?_) (fun aa y=>?_)))))))))
   ·refine sr (lv (rv_assign (v:=V6 (-1)) u) (nq (wc_ret (qe_block_ret (qe_then_ret (qe_then_ret ?_))))))
    cases oi y
    cases C _ u
    refine qe_block_ret (qe_then_ret ?_)
    cases oi B
    refine qe_then_ret ?_
    cases oi d
    exact ey results18 ⟨s,u,k,(by decide :rng64 (-1))⟩
   refine wc_skip (qe_block (qe_seq (wc_region (mv u (lv (rv_add u u) (av u (wl_nil ?_)))))))
   cases oi y
   exact qd ⟨_,u,s,u,k,l,(w64_rng _),(w64_rng _)⟩
  refine wc_exit (qe_then_exit (qe_then_exit ?_))
  cases oi x
  cases C _ u
  refine qe_block_eq ?_
  cases oi B
  exact qd ⟨_,s,u,u,k,l,J⟩
 rintro _ ak ⟨f,i,rfl,rfl,ab,al,ac⟩
 have d:=elim_l d
 refine qr (mv u (av u (nq (wc_ret ?_))))
 cases oi d
 exact ey results18 ⟨i,u,ab,ac⟩

theorem ok_laws_szSyn {q0:GSyn}{q1:Int}{r:Int}(hS:SH w K [] w K [])(l:SliceAt tStr K A a b q0.From)(D:q0.To.length≤maxLen)(m:rng64 q1)(hm:M.laws_szSyn F q0 q1=some r):
  Calls prog 59 #[.agg #[V3 A a b,sv q0.To],V6 q1] w (R_i w K r):=by
 rw [M.laws_szSyn] at hm
 refine ci func59 u ntmps59 (sr (bx u hS fun o G q=>?_))
 have d:SH _ _ _ _ _ [obj o [V3 A a b,sv q0.To] 98]:=q
 refine lv (r_0 u) (nr (fl ff98_0 u tf22 m0 d u (mv u ?_)))
 obtain⟨H,s,x⟩:=ob hm
 refine lk co18 (ok_laws_szStringS F d.enter0 l m s) ?_
 rintro I J ⟨f,rfl,y,O⟩
 have c:=(d.c0 y).t1
 refine av u (nsr (mv u (lv (rv_lss u u) (nq (wcc x u (fun B i=>?_) (fun B i=>?_))))))
 ·refine sr (lv (rv_assign (v:=V6 (-1)) u) (nq (rr ?_)))
  cases oi i
  exact ey results59 ⟨f,u,c.s,(by decide :rng64 (-1))⟩
 refine wc_skip (qr (mv u (fl ff98_1 u tf9 m0 c u (lv (rv_slen underlying9 u) (lv (rv_sub u u) (av u (nsr (mv u (lv (rv_lss u u) ?_)))))))))
 refine nq (wcc i u (fun C k=>?_) (fun C k=>?_))
 ·refine sr (lv (rv_assign (v:=V6 (-1)) u) (nq (rr ?_)))
  cases oi k
  exact ey results59 ⟨f,u,c.s,(by decide :rng64 (-1))⟩
 refine wc_skip (qr (mv u (av u (nq (wc_ret ?_)))))
 cases oi k
 exact ey results59 ⟨f,u,c.s,(w64_rng _)⟩

theorem ok_laws_szSynS {q0:List GSyn}{q1:Int}{r:Int}(hS:SH w K [] w K [])(m:SliceAt tGSyn K A a b q0)(ao:rng64 q1)(hm:M.laws_szSynS F q0 q1=some r):
  Calls prog 27 #[V3 A a b,V6 q1] w (R_i w K r):=by
 rw [M.laws_szSynS] at hm
 refine ci func27 u ntmps27 (sr (lv (r_0 u) (nr (mv u (mv u (lv (rv_len underlying23 u m) (lv (rv_sub u u) (av u (nsr ?_)))))))))
 refine mv u (lv (rv_lss u u) (nq (wc_cond u (fun o=>?_) (fun o=>?_))))
 ·have q:=cond_t o hm
  refine sr (lv (rv_assign (v:=V6 (-1)) u) (nq (rr ?_)))
  cases oi q
  exact ey results27 ⟨K,u,hS,(by decide :rng64 (-1))⟩
 have q:=cond_f o hm
 refine wc_skip (qs (sr (lv (r_0 u) (nq ?_))))
 obtain⟨I,J,d⟩:=ob q
 refine wc_cutg (fun E' w'=>∃f i,I= .inl f∧E'=[(1,V6 f)]∧SH w K [] w' i []∧KLe K i∧rng64 f) ?_ ?_
 ·refine wc_block ?_
  obtain⟨ap,O,y⟩:=ob J
  refine qw (fun (c:Int×Int)=>IW w K [] K [(0,V3 A a b),(1,V6 c.1),(5,V6 c.2)] [] (rng64 c.1∧rng64 c.2)) O ⟨K,u,hS,kr,(w64_rng _),d_0⟩ ?_
  rintro c _ aq ar R B ⟨S,rfl,k,l,C,au⟩
  refine wc_seq (sr (mv u (mv u (lv (rv_len underlying23 u (m.mono l)) (lv (rv_lss u u) (nq (wcc R u (fun T s=>?_) (fun T s=>?_))))))))
  ·refine wc_skip (qs (wc_block (sr (mv u (mv u ?_)))))
   obtain⟨U,V,W⟩:=ob s
   refine li underlying23 tf98 (m.mono l) V fun X Y aw aa ab=>?_
   obtain⟨ac,ad,ae,rfl,af,ag⟩:=aa
   have ah:AtK _ X Y [V3 ac ad ae,sv U.To]:=ab
   refine lv (rv_loadS tf98 u k ah u) (mv u ?_)
   obtain⟨ax,ai,aj⟩:=ob W
   refine lk co59 (ok_laws_szSyn F k.enter0 af ag C ai) ?_
   rintro ay az ⟨D,rfl,G,ak⟩
   have H:=(k.c0 G).t0
   refine av u (nr (mv u (lv (rv_lss u u) (nq (wcc aj u (fun al x=>?_) (fun al x=>?_))))))
   ·refine sr (lv (rv_assign (v:=V6 (-1)) u) (nq (wc_ret (qe_block_ret (qe_then_ret (qe_then_ret ?_))))))
    cases oi x
    cases B _ u
    refine qe_block_ret (qe_then_ret ?_)
    cases oi y
    refine qe_then_ret ?_
    cases oi d
    exact ey results27 ⟨D,u,H,(by decide :rng64 (-1))⟩
   refine wc_skip (qe_block (qe_seq (wc_region (mv u (lv (rv_add u u) (av u (wl_nil ?_)))))))
   cases oi x
   exact qd ⟨_,u,D,u,H,(l.trans G.le),ak,(w64_rng _)⟩
  refine wc_exit (qe_then_exit (qe_then_exit ?_))
  cases oi s
  cases B _ u
  refine qe_block_eq ?_
  cases oi y
  exact qd ⟨_,S,u,u,k,l,C⟩
 rintro _ aA ⟨f,i,rfl,rfl,am,aB,an⟩
 have d:=elim_l d
 refine qr (mv u (av u (nq (wc_ret ?_))))
 cases oi d
 exact ey results27 ⟨i,u,am,an⟩

theorem ok_laws_szConf {q0:GConf}{q1:Int}{r:Int}(hS:SH w K [] w K [])(s:SliceAt tStr K A a b q0.Stops)(x:SliceAt tGSyn K B c d q0.Syns)(y:rng64 q1)(hm:M.laws_szConf F q0 q1=some r):
  Calls prog 5 #[.agg #[V3 A a b,V3 B c d],V6 q1] w (R_i w K r):=by
 rw [M.laws_szConf] at hm
 refine ci func5 u ntmps5 (sr (bx u hS fun C W D=>?_))
 have i:SH _ _ _ _ _ [obj C [V3 A a b,V3 B c d] 25]:=D
 refine lv (r_0 u) (nr (fl ff25_0 u tf22 m0 i u (mv u ?_)))
 obtain⟨X,G,H⟩:=ob hm
 refine lk co18 (ok_laws_szStringS F i.enter0 s y G) ?_
 rintro Y aa ⟨I,rfl,m,J⟩
 have f:=(i.c0 m).t1
 refine av u (nsr (mv u (lv (rv_lss u u) (nq (wcc H u (fun O k=>?_) (fun O k=>?_))))))
 ·refine sr (lv (rv_assign (v:=V6 (-1)) u) (nq (rr ?_)))
  cases oi k
  exact ey results5 ⟨I,u,f.s,(by decide :rng64 (-1))⟩
 refine wc_skip (qr (fl ff25_1 u tf23 m0 f u (mv u ?_)))
 obtain⟨ab,R,S⟩:=ob k
 refine lk co27 (ok_laws_szSynS F f.enter0 (x.mono m.le) J R) ?_
 rintro ac ad ⟨o,rfl,T,U⟩
 have q:=(f.c0 T).t1
 refine av u (nsr (mv u (lv (rv_lss u u) (nq (wcc S u (fun V l=>?_) (fun V l=>?_))))))
 ·refine sr (lv (rv_assign (v:=V6 (-1)) u) (nq (rr ?_)))
  cases oi l
  exact ey results5 ⟨o,u,q.s,(by decide :rng64 (-1))⟩
 refine wc_skip (qr (mv u (av u (nq (wc_ret ?_)))))
 cases oi l
 exact ey results5 ⟨o,u,q.s,U⟩

theorem ok_laws_eqIntS {q0:List Int}{q1:List Int}{r:Bool}(hS:SH w K [] w K [])(k:SliceAt tInt K A a b q0)(x:SliceAt tInt K B c d q1)(hm:M.laws_eqIntS F q0 q1=some r):
  Calls prog 190 #[V3 A a b,V3 B c d] w (R_b w K r):=by
 rw [M.laws_eqIntS] at hm
 refine ci func190 u ntmps190 (sr (lv (r_f u) (nsr (mv u (lv (rv_len underlying117 u k) (mv u (lv (rv_len underlying117 u x) (lv (rv_neq u u) (nq ?_)))))))))
 refine wc_cond u (fun l=>?_) (fun l=>?_)
 ·have m:=cond_t l hm
  refine sr (lv (r_f u) (nq (rr ?_)))
  cases oi m
  exact ey results190 ⟨K,u,hS⟩
 have m:=cond_f l hm
 refine wc_skip (qs (sr (lv (r_0 u) (nq ?_))))
 obtain⟨I,J,i⟩:=ob m
 refine wc_cutg (IE I w K [] K [] []) ?_ ?_
 ·refine wc_block ?_
  obtain⟨ap,O,y⟩:=ob J
  refine qw (fun (o:Int)=>IW w K [] K [(0,V3 A a b),(1,V3 B c d),(5,V6 o)] [] (rng64 o)) O ⟨K,u,hS,kr,d_0⟩ ?_
  rintro o _ aq ar R C ⟨S,rfl,D,f,au⟩
  refine wc_seq (sr (mv u (mv u (lv (rv_len underlying117 u (k.mono f)) (lv (rv_lss u u) (nq (wcc R u (fun T q=>?_) (fun T q=>?_))))))))
  ·refine wc_skip (qs (wc_block (wc_seq (wc_quiet mixed (by kernel_rfl) D (km u (km u ?_))))))
   obtain⟨U,V,W⟩:=ob q
   refine ki underlying117 tf3 (k.mono f) V fun X Y aw aa ab=>?_
   obtain⟨rfl,ax⟩:=aa
   have ac:AtK _ X Y [V6 U]:=ab
   refine kh (rq_load1 tf3 u (ac 0 _ u)) (km u (km u ?_))
   obtain⟨ad,ae,af⟩:=ob W
   refine ki underlying117 tf3 (x.mono f) ae fun ag ah ay ai aj=>?_
   obtain⟨rfl,az⟩:=ai
   have ak:AtK _ ag ah [V6 ad]:=aj
   refine kh (rq_load1 tf3 u (ak 0 _ u)) (kv (rv_neq u u) (wq_nil ?_))
   rintro aA ⟨G,H,al⟩
   refine qe_seq (wcc af u (fun am s=>?_) (fun am s=>?_))
   ·refine sr (lv (r_f u) (nq (wc_ret (qe_block_ret (qe_then_ret (qe_then_ret ?_))))))
    cases oi s
    cases C _ u
    refine qe_block_ret (qe_then_ret ?_)
    cases oi y
    refine qe_then_ret ?_
    cases oi i
    exact ey results190 ⟨G,u,H⟩
   refine wc_skip (qe_block (qe_seq (wc_region (mv u (lv (rv_add u u) (av u (wl_nil ?_)))))))
   cases oi s
   exact qd ⟨_,u,G,u,H,(f.trans al),(w64_rng _)⟩
  refine wc_exit (qe_then_exit (qe_then_exit ?_))
  cases oi q
  cases C _ u
  refine qe_block_eq ?_
  cases oi y
  exact qe_mid' ⟨_,S,u,u,D,f⟩ trivial
 rintro _ aB ⟨aC,an,rfl,rfl,ao,aD⟩
 have i:=elim_l i
 refine qr (lv (r_t u) (nq (wc_ret ?_)))
 cases oi i
 exact ey results190 ⟨an,u,ao⟩

theorem ok_laws_eqPost {q0:GPost}{q1:GPost}{r:Bool}(hS:SH w K [] w K [])(R:rng64 q0.Doc)(q:SliceAt tInt K A a b q0.At)(S:rng64 q1.Doc)(s:SliceAt tInt K B c d q1.At)(hm:M.laws_eqPost F q0 q1=some r):
  Calls prog 166 #[.agg #[V6 q0.Doc,V3 A a b],.agg #[V6 q1.Doc,V3 B c d]] w (R_b w K r):=by
 rw [M.laws_eqPost] at hm
 refine ci func166 u ntmps166 (sr (bx u hS fun x T y=>?_))
 have C:SH _ _ _ _ _ [obj x [V6 q0.Doc,V3 A a b] 119]:=y
 refine bx u C fun D U G=>?_
 have f:SH _ _ _ _ _ [obj D [V6 q1.Doc,V3 B c d] 119,_]:=G
 refine lv (r_f u) (nsr (fl ff119_0 u tf3 m1 f u (fl ff119_0 u tf3 m0 f u (lv (rv_neq u u) (nq (wc_cond u (fun i=>?_) (fun i=>?_)))))))
 ·have k:=cond_t i hm
  refine sr (lv (r_f u) (nq (rr ?_)))
  cases oi k
  exact ey results166 ⟨K,u,f.s⟩
 have k:=cond_f i hm
 refine wc_skip (qs (sr (fl ff119_1 u tf117 m1 f u (fl ff119_1 u tf117 m0 f u ?_))))
 obtain⟨V,H,I⟩:=ob k
 refine lk co190 (ok_laws_eqIntS F f.enter0 q s H) ?_
 rintro W X ⟨m,rfl,J⟩
 have o:=(f.c0 J).t2
 refine lv (rv_not u) (nq (wcc I u (fun O l=>?_) (fun O l=>?_)))
 ·refine sr (lv (r_f u) (nq (rr ?_)))
  cases oi l
  exact ey results166 ⟨m,u,o.s⟩
 refine wc_skip (qr (lv (r_t u) (nq (wc_ret ?_))))
 cases oi l
 exact ey results166 ⟨m,u,o.s⟩

theorem ok_laws_eqPostS {q0:List GPost}{q1:List GPost}{r:Bool}(hS:SH w K [] w K [])(k:SliceAt tGPost K A a b q0)(x:SliceAt tGPost K B c d q1)(hm:M.laws_eqPostS F q0 q1=some r):
  Calls prog 127 #[V3 A a b,V3 B c d] w (R_b w K r):=by
 rw [M.laws_eqPostS] at hm
 refine ci func127 u ntmps127 (sr (lv (r_f u) (nsr (mv u (lv (rv_len underlying112 u k) (mv u (lv (rv_len underlying112 u x) (lv (rv_neq u u) (nq ?_)))))))))
 refine wc_cond u (fun l=>?_) (fun l=>?_)
 ·have m:=cond_t l hm
  refine sr (lv (r_f u) (nq (rr ?_)))
  cases oi m
  exact ey results127 ⟨K,u,hS⟩
 have m:=cond_f l hm
 refine wc_skip (qs (sr (lv (r_0 u) (nq ?_))))
 obtain⟨J,O,i⟩:=ob m
 refine wc_cutg (IE J w K [] K [] []) ?_ ?_
 ·refine wc_block ?_
  obtain⟨aG,R,y⟩:=ob O
  refine qw (fun (o:Int)=>IW w K [] K [(0,V3 A a b),(1,V3 B c d),(5,V6 o)] [] (rng64 o)) R ⟨K,u,hS,kr,d_0⟩ ?_
  rintro o _ aH aI S C ⟨T,rfl,D,f,aJ⟩
  refine wc_seq (sr (mv u (mv u (lv (rv_len underlying112 u (k.mono f)) (lv (rv_lss u u) (nq (wcc S u (fun U q=>?_) (fun U q=>?_))))))))
  ·refine wc_skip (qs (wc_block (wc_seq (wc_quiet mixed (by kernel_rfl) D (km u (km u ?_))))))
   obtain⟨V,W,X⟩:=ob q
   refine ki underlying112 tf119 (k.mono f) W fun Y aa aK ab ac=>?_
   obtain⟨ad,ae,af,rfl,ag,ah⟩:=ab
   have ai:AtK _ Y aa [V6 V.Doc,V3 ad ae af]:=ac
   refine kh (rq_loadS tf119 u ai u) (km u (km u ?_))
   obtain⟨aj,ak,al⟩:=ob X
   refine ki underlying112 tf119 (x.mono f) ak fun am an aL ao ap=>?_
   obtain⟨aq,ar,au,rfl,aw,ax⟩:=ao
   have ay:AtK _ am an [V6 aj.Doc,V3 aq ar au]:=ap
   refine kh (rq_loadS tf119 u ay u) ?_
   obtain⟨aM,az,aA⟩:=ob al
   refine kc co166 (fun _ _ aB G=>(ok_laws_eqPost F) aB.enter0 ag (ah.mono G) aw (ax.mono G) az) (kv (rv_not u) (wq_nil ?_))
   rintro aN ⟨H,I,aC⟩
   refine qe_seq (wcc aA u (fun aD s=>?_) (fun aD s=>?_))
   ·refine sr (lv (r_f u) (nq (wc_ret (qe_block_ret (qe_then_ret (qe_then_ret ?_))))))
    cases oi s
    cases C _ u
    refine qe_block_ret (qe_then_ret ?_)
    cases oi y
    refine qe_then_ret ?_
    cases oi i
    exact ey results127 ⟨H,u,I⟩
   refine wc_skip (qe_block (qe_seq (wc_region (mv u (lv (rv_add u u) (av u (wl_nil ?_)))))))
   cases oi s
   exact qd ⟨_,u,H,u,I,(f.trans aC),(w64_rng _)⟩
  refine wc_exit (qe_then_exit (qe_then_exit ?_))
  cases oi q
  cases C _ u
  refine qe_block_eq ?_
  cases oi y
  exact qe_mid' ⟨_,T,u,u,D,f⟩ trivial
 rintro _ aO ⟨aP,aE,rfl,rfl,aF,aQ⟩
 have i:=elim_l i
 refine qr (lv (r_t u) (nq (wc_ret ?_)))
 cases oi i
 exact ey results127 ⟨aE,u,aF⟩

theorem ok_laws_eqEntry {q0:GEntry}{q1:GEntry}{r:Bool}(hS:SH w K [] w K [])(T:q0.Field.length≤maxLen)(U:q0.Term.length≤maxLen)(s:SliceAt tGPost K A a b q0.Posts)(V:q1.Field.length≤maxLen)(W:q1.Term.length≤maxLen)(x:SliceAt tGPost K B c d q1.Posts)(hm:M.laws_eqEntry F q0 q1=some r):
  Calls prog 79 #[.agg #[sv q0.Field,sv q0.Term,V3 A a b],.agg #[sv q1.Field,sv q1.Term,V3 B c d]] w (R_b w K r):=by
 rw [M.laws_eqEntry] at hm
 refine ci func79 u ntmps79 (sr (bx u hS fun y X C=>?_))
 have D:SH _ _ _ _ _ [obj y [sv q0.Field,sv q0.Term,V3 A a b] 114]:=C
 refine bx u D fun G Y H=>?_
 have f:SH _ _ _ _ _ [obj G [sv q1.Field,sv q1.Term,V3 B c d] 114,_]:=H
 refine lv (r_f u) (nsr (fl ff114_0 u tf9 m1 f u (fl ff114_0 u tf9 m0 f u (lv (rv_sneq u u) (nq (wc_cond u (fun i=>?_) (fun i=>?_)))))))
 ·have k:=cond_t i hm
  refine sr (lv (r_f u) (nq (rr ?_)))
  cases oi k
  exact ey results79 ⟨K,u,f.s⟩
 have k:=cond_f i hm
 refine wc_skip (qs (sr (fl ff114_1 u tf9 m1 f u (fl ff114_1 u tf9 m0 f u (lv (rv_sneq u u) (nq (wcc k u (fun I l=>?_) (fun I l=>?_))))))))
 ·refine sr (lv (r_f u) (nq (rr ?_)))
  cases oi l
  exact ey results79 ⟨K,u,f.s⟩
 refine wc_skip (qs (sr (fl ff114_2 u tf112 m1 f u (fl ff114_2 u tf112 m0 f u ?_))))
 obtain⟨aa,J,O⟩:=ob l
 refine lk co127 (ok_laws_eqPostS F f.enter0 s x J) ?_
 rintro ab ac ⟨o,rfl,R⟩
 have q:=(f.c0 R).t2
 refine lv (rv_not u) (nq (wcc O u (fun S m=>?_) (fun S m=>?_)))
 ·refine sr (lv (r_f u) (nq (rr ?_)))
  cases oi m
  exact ey results79 ⟨o,u,q.s⟩
 refine wc_skip (qr (lv (r_t u) (nq (wc_ret ?_))))
 cases oi m
 exact ey results79 ⟨o,u,q.s⟩

theorem ok_laws_eqEntryS {q0:List GEntry}{q1:List GEntry}{r:Bool}(hS:SH w K [] w K [])(k:SliceAt tGEntry K A a b q0)(x:SliceAt tGEntry K B c d q1)(hm:M.laws_eqEntryS F q0 q1=some r):
  Calls prog 40 #[V3 A a b,V3 B c d] w (R_b w K r):=by
 rw [M.laws_eqEntryS] at hm
 refine ci func40 u ntmps40 (sr (lv (r_f u) (nsr (mv u (lv (rv_len underlying39 u k) (mv u (lv (rv_len underlying39 u x) (lv (rv_neq u u) (nq ?_)))))))))
 refine wc_cond u (fun l=>?_) (fun l=>?_)
 ·have m:=cond_t l hm
  refine sr (lv (r_f u) (nq (rr ?_)))
  cases oi m
  exact ey results40 ⟨K,u,hS⟩
 have m:=cond_f l hm
 refine wc_skip (qs (sr (lv (r_0 u) (nq ?_))))
 obtain⟨R,S,i⟩:=ob m
 refine wc_cutg (IE R w K [] K [] []) ?_ ?_
 ·refine wc_block ?_
  obtain⟨aI,T,y⟩:=ob S
  refine qw (fun (o:Int)=>IW w K [] K [(0,V3 A a b),(1,V3 B c d),(5,V6 o)] [] (rng64 o)) T ⟨K,u,hS,kr,d_0⟩ ?_
  rintro o _ aJ aK U C ⟨V,rfl,D,f,aL⟩
  refine wc_seq (sr (mv u (mv u (lv (rv_len underlying39 u (k.mono f)) (lv (rv_lss u u) (nq (wcc U u (fun W q=>?_) (fun W q=>?_))))))))
  ·refine wc_skip (qs (wc_block (wc_seq (wc_quiet mixed (by kernel_rfl) D (km u (km u ?_))))))
   obtain⟨G,X,Y⟩:=ob q
   refine ki underlying39 tf114 (k.mono f) X fun aa ab aM ac ad=>?_
   obtain⟨ae,af,ag,rfl,ah,ai,aj⟩:=ac
   have ak:AtK _ aa ab [sv G.Field,sv G.Term,V3 ae af ag]:=ad
   refine kh (rq_loadS tf114 u ak u) (km u (km u ?_))
   obtain⟨H,al,am⟩:=ob Y
   refine ki underlying39 tf114 (x.mono f) al fun an ao aN ap aq=>?_
   obtain⟨ar,au,aw,rfl,ax,ay,az⟩:=ap
   have aA:AtK _ an ao [sv H.Field,sv H.Term,V3 ar au aw]:=aq
   refine kh (rq_loadS tf114 u aA u) ?_
   obtain⟨aO,aB,aC⟩:=ob am
   refine kc co79 (fun _ _ aD I=>(ok_laws_eqEntry F) aD.enter0 ah ai (aj.mono I) ax ay (az.mono I) aB) (kv (rv_not u) (wq_nil ?_))
   rintro aP ⟨J,O,aE⟩
   refine qe_seq (wcc aC u (fun aF s=>?_) (fun aF s=>?_))
   ·refine sr (lv (r_f u) (nq (wc_ret (qe_block_ret (qe_then_ret (qe_then_ret ?_))))))
    cases oi s
    cases C _ u
    refine qe_block_ret (qe_then_ret ?_)
    cases oi y
    refine qe_then_ret ?_
    cases oi i
    exact ey results40 ⟨J,u,O⟩
   refine wc_skip (qe_block (qe_seq (wc_region (mv u (lv (rv_add u u) (av u (wl_nil ?_)))))))
   cases oi s
   exact qd ⟨_,u,J,u,O,(f.trans aE),(w64_rng _)⟩
  refine wc_exit (qe_then_exit (qe_then_exit ?_))
  cases oi q
  cases C _ u
  refine qe_block_eq ?_
  cases oi y
  exact qe_mid' ⟨_,V,u,u,D,f⟩ trivial
 rintro _ aQ ⟨aR,aG,rfl,rfl,aH,aS⟩
 have i:=elim_l i
 refine qr (lv (r_t u) (nq (wc_ret ?_)))
 cases oi i
 exact ey results40 ⟨aG,u,aH⟩

theorem ok_spec_l1In {q0:Int}{q1:Int}{q2:Int}{r:Bool}(hS:SH w K [] w K [])(c:rng64 q0)(d:rng64 q1)(f:rng64 q2)(hm:M.spec_l1In F q0 q1 q2=some r):
  Calls prog 46 #[V6 q0,V6 q1,V6 q2] w (R_b w K r):=by
 rw [M.spec_l1In] at hm
 refine ci func46 u ntmps46 (sr (lv (r_f u) (nr (mv u (mv u (lv (rv_geq u u) (mv u (bt hm (fun a b=>?_) (fun a b=>?_)))))))))
 ·refine lg a (rv_move u) (lg a (rv_move u) (lg a (rv_leq u u) (lv (rv_pick_t u a u) (av u (nq (wc_ret ?_))))))
  cases oi b
  exact ey results46 ⟨K,u,hS⟩
 refine lu a (lu a (lu a (lv (p_f u a u) (av u (nq (wc_ret ?_))))))
 cases oi b
 exact ey results46 ⟨K,u,hS⟩

theorem ok_spec_l1Fold {q0:UInt8}{r:UInt8}(hS:SH w K [] w K [])(hm:M.spec_l1Fold F q0=some r):
  Calls prog 83 #[iv8 q0] w fun e w'=>∃K',e= .returned (iv8 r)∧SH w K [] w' K' []:=by
 rw [M.spec_l1Fold] at hm
 refine ci func83 u ntmps83 (sr (lv (rv_assign (v:=iv8 0) u) (ns (wc_block (wc_seq ?_)))))
 obtain⟨D,G,H⟩:=ob hm
 refine wc_cutg (IV w K [] K [(0,iv8 q0),(3,.bool D)] []) ?_ ?_
 ·refine wc_region (mv u (lv (rv_bge (b:=(65:UInt8)) u u) (mv u (bt G (fun c m=>?_) (fun c m=>?_)))))
  ·refine lg c (rv_move u) (lg c (rv_ble (b:=(90:UInt8)) u u) (lv (rv_pick_t u c u) (av u (wl_nil ?_))))
   cases oi m
   exact qd ⟨K,u,hS,kr⟩
  refine lu c (lu c (lv (p_f u c u) (av u (wl_nil ?_))))
  cases oi m
  exact qd ⟨K,u,hS,kr⟩
 rintro _ T ⟨d,rfl,l,U⟩
 refine qe_seq (wcc H u (fun I o=>?_) (fun I o=>?_))
 ·refine sr (mv u (lv (rv_badd (b:=(32:UInt8)) u u) (av u (nq (wc_ret (qe_block_ret (qe_then_ret ?_)))))))
  cases oi o
  exact ey results83 ⟨d,u,l⟩
 refine wc_seq ?_
 obtain⟨J,O,R⟩:=ob o
 refine wc_cutg (IV w K [] d [(0,iv8 q0),(12,.bool J)] []) ?_ ?_
 ·refine wc_region (mv u (lv (rv_bge (b:=(97:UInt8)) u u) (mv u (bt O (fun f q=>?_) (fun f q=>?_)))))
  ·refine lg f (rv_move u) (lg f (rv_ble (b:=(122:UInt8)) u u) (lv (rv_pick_t u f u) (mv u (bt q (fun a s=>?_) (fun a s=>?_)))))
   ·refine lu a (lu a (lu a (wl_un (uu u u) u (wl_un (uu u u) u (lu a (lv (p_t u a u) (av u (wl_nil ?_))))))))
    cases oi s
    exact qd ⟨d,u,l,kr⟩
   refine lg a (rv_move u) (lg a (rv_bge (b:=(48:UInt8)) u u) (lg a (rv_move u) (bt s (fun i x=>?_) (fun i x=>?_))))
   ·refine lg i (rv_move u) (lg i (rv_ble (b:=(57:UInt8)) u u) (lg a (rv_pick_t u i u) (lv (rv_pick_f u a u) (av u (wl_nil ?_)))))
    cases oi x
    exact qd ⟨d,u,l,kr⟩
   refine lu i (lu i (lg a (p_f u i u) (lv (rv_pick_f u a u) (av u (wl_nil ?_)))))
   cases oi x
   exact qd ⟨d,u,l,kr⟩
  refine lu f (lu f (lv (p_f u f u) (mv u (lg u (rv_move u) (lg u (rv_bge (b:=(48:UInt8)) u u) (lg u (rv_move u) (bt q (fun k y=>?_) (fun k y=>?_))))))))
  ·refine lg k (rv_move u) (lg k (rv_ble (b:=(57:UInt8)) u u) (lg u (rv_pick_t u k u) (lv (rv_pick_f u u u) (av u (wl_nil ?_)))))
   cases oi y
   exact qd ⟨d,u,l,kr⟩
  refine lu k (lu k (lg u (p_f u k u) (lv (rv_pick_f u u u) (av u (wl_nil ?_)))))
  cases oi y
  exact qd ⟨d,u,l,kr⟩
 rintro _ V ⟨B,rfl,C,W⟩
 refine qe_seq (wcc R u (fun S A=>?_) (fun S A=>?_))
 ·refine sr (mv u (av u (nq (wc_ret (qe_block_ret (qe_then_ret ?_))))))
  cases oi A
  exact ey results83 ⟨B,u,C⟩
 refine wc_skip (qe_block (qr (lv (rv_assign (v:=iv8 0) u) (nq (wc_ret ?_)))))
 cases oi A
 exact ey results83 ⟨B,u,C⟩

theorem ok_spec_l1WordOk {q0:Str}{r:Bool}(hS:SH w K [] w K [])(B:q0.length≤maxLen)(hm:M.spec_l1WordOk F q0=some r):
  Calls prog 44 #[sv q0] w (R_b w K r):=by
 rw [M.spec_l1WordOk] at hm
 refine ci func44 u ntmps44 (sr (lv (r_f u) (nsr (lv (r_0 u) (nq ?_)))))
 obtain⟨C,D,c⟩:=ob hm
 refine wc_cutg (IE C w K [] K [(0,sv q0)] []) ?_ ?_
 ·refine wc_block ?_
  obtain⟨ap,G,l⟩:=ob D
  refine qw (fun (d:Int)=>IW w K [] K [(0,sv q0),(3,V6 d)] [] (rng64 d)) G ⟨K,u,hS,kr,d_0⟩ ?_
  rintro d _ aq ar H m ⟨o,rfl,q,s,au⟩
  refine wc_seq (sr (mv u (mv u (lv (rv_slen underlying9 u) (lv (rv_lss u u) (nq (wcc H u (fun I f=>?_) (fun I f=>?_))))))))
  ·refine wc_skip (qs (wc_block (wc_seq ?_)))
   obtain⟨J,O,R⟩:=ob f
   refine wc_cutg (IV w K [] o [(0,sv q0),(3,V6 d),(23,.bool J)] []) ?_ ?_
   ·refine wc_quiet mixed (by kernel_rfl) q (km u (km u ?_))
    obtain⟨aw,S,T⟩:=ob O
    refine kv (rv_sidx underlying9 u u S) ?_
    obtain⟨ax,U,V⟩:=ob T
    refine kc co83 (fun _ _ W ay=>(ok_spec_l1Fold F) W.enter0 U) (km u (km u ?_))
    obtain⟨az,X,Y⟩:=ob V
    refine kv (rv_sidx underlying9 u u X) (kv (rv_bne u u) (km u (bt Y (fun a i=>?_) (fun a i=>?_))))
    ·refine kn a (kn a (kn a (kn a (kv (p_t u a u) (wq_nil ?_)))))
     rintro aA ⟨aa,ab,ac⟩
     cases oi i
     exact qd ⟨aa,u,ab,ac⟩
    refine kg a (rv_move u) (kg a (rv_move u) ?_)
    obtain⟨aB,ad,ae⟩:=ob i
    refine kg a (rv_sidx underlying9 u u ad) (kg a (rv_beq (b:=(0:UInt8)) u u) (kv (rv_pick_f u a u) (wq_nil ?_)))
    rintro aC ⟨af,ag,ah⟩
    cases oi ae
    exact qd ⟨af,u,ag,ah⟩
   rintro _ aD ⟨x,rfl,y,ai⟩
   refine qe_seq (wcc R u (fun aj k=>?_) (fun aj k=>?_))
   ·refine sr (lv (r_f u) (nq (wc_ret (qe_block_ret (qe_then_ret (qe_then_ret ?_))))))
    cases oi k
    cases m _ u
    refine qe_block_ret (qe_then_ret ?_)
    cases oi l
    refine qe_then_ret ?_
    cases oi c
    exact ey results44 ⟨x,u,y⟩
   refine wc_skip (qe_block (qe_seq (wc_region (mv u (lv (rv_add u u) (av u (wl_nil ?_)))))))
   cases oi k
   exact qd ⟨_,u,x,u,y,(s.trans ai),(w64_rng _)⟩
  refine wc_exit (qe_then_exit (qe_then_exit ?_))
  cases oi f
  cases m _ u
  refine qe_block_eq ?_
  cases oi l
  exact qd ⟨_,o,u,u,q,s⟩
 rintro _ w9 ⟨s5,K6,rfl,rfl,A,aH⟩
 have c:=elim_l c
 refine qr (mv u (lv (rv_slen underlying9 u) ?_))
 obtain⟨aI,ak,al⟩:=ob c
 refine lk co46 (ok_spec_l1In F A.enter0 (rng_nat B) (by decide :rng64 1) (by decide :rng64 12) ak) ?_
 rintro aJ aK ⟨am,rfl,an⟩
 have ao:=(A.c0 an).t0
 refine av u (nq (wc_ret ?_))
 cases oi al
 exact ey results44 ⟨am,u,ao⟩

theorem ok_spec_l2Has {q0:List Str}{q1:Str}{r:Bool}(hS:SH w K [] w K [])(o:SliceAt tStr K A a b q0)(X:q1.length≤maxLen)(hm:M.spec_l2Has F q0 q1=some r):
  Calls prog 48 #[V3 A a b,sv q1] w (R_b w K r):=by
 rw [M.spec_l2Has] at hm
 refine ci func48 u ntmps48 (sr (lv (r_f u) (nsr (lv (r_0 u) (nq ?_)))))
 obtain⟨x,y,c⟩:=ob hm
 refine wc_cutg (IE x w K [] K [] []) ?_ ?_
 ·refine wc_block ?_
  obtain⟨Y,B,q⟩:=ob y
  refine qw (fun (i:Int)=>IW w K [] K [(0,V3 A a b),(1,sv q1),(5,V6 i)] [] (rng64 i)) B ⟨K,u,hS,kr,d_0⟩ ?_
  rintro i _ aa ab C s ⟨k,rfl,d,f,ac⟩
  refine wc_seq (sr (mv u (mv u (lv (rv_len underlying22 u (o.mono f)) (lv (rv_lss u u) (nq (wcc C u (fun D l=>?_) (fun D l=>?_))))))))
  ·refine wc_skip (qs (wc_block (sr (mv u (mv u ?_)))))
   obtain⟨G,H,I⟩:=ob l
   refine li underlying22 tf9 (o.mono f) H fun J O ad R S=>?_
   obtain⟨rfl,ae⟩:=R
   have T:AtK _ J O [sv G]:=S
   refine lv (rv_load1 tf9 u d (T 0 _ u)) (mv u (lv (rv_seql u u) (nq (wcc I u (fun U m=>?_) (fun U m=>?_)))))
   ·refine sr (lv (r_t u) (nq (wc_ret (qe_block_ret (qe_then_ret (qe_then_ret ?_))))))
    cases oi m
    cases s _ u
    refine qe_block_ret (qe_then_ret ?_)
    cases oi q
    refine qe_then_ret ?_
    cases oi c
    exact ey results48 ⟨k,u,d⟩
   refine wc_skip (qe_block (qe_seq (wc_region (mv u (lv (rv_add u u) (av u (wl_nil ?_)))))))
   cases oi m
   exact qd ⟨_,u,k,u,d,f,(w64_rng _)⟩
  refine wc_exit (qe_then_exit (qe_then_exit ?_))
  cases oi l
  cases s _ u
  refine qe_block_eq ?_
  cases oi q
  exact qe_mid' ⟨_,k,u,u,d,f⟩ trivial
 rintro _ af ⟨s9,V,rfl,rfl,W,ah⟩
 have c:=elim_l c
 refine qr (lv (r_f u) (nq (wc_ret ?_)))
 cases oi c
 exact ey results48 ⟨V,u,W⟩

theorem ok_spec_l2Ends {r:(List Str)}(hS:SH w K [] w K [])(hm:M.spec_l2Ends F=some r):
  Calls prog 176 #[] w fun e w'=>∃a_1 n_2 c_3 K',e= .returned (V3 a_1 n_2 c_3)∧SH w K [] w' K' [tail (V3 a_1 n_2 c_3) 9 1]∧SliceAt tStr K' a_1 n_2 c_3 r:=by
 rw [M.spec_l2Ends] at hm
 refine ci func176 u ntmps176 (sr (lv (r_n u) (nr (bw [[105,110,103],[101,100],[101,115],[108,121],[115]] underlying22 tf9 hS fun a f b i c d=>(av u (nq (wc_ret ?_)))))))
 cases oi hm
 exact ey results176 ⟨a,5,5,b,u,d,c⟩

theorem ok_spec_l2Once {q0:Str}{r:Str}(hS:SH w K [] w K [])(q:q0.length≤maxLen)(hm:M.spec_l2Once F q0=some r):
  Calls prog 146 #[sv q0] w fun e w'=>∃K',e= .returned (sv r)∧SH w K [] w' K' []∧r.length≤maxLen:=by
 rw [M.spec_l2Once] at hm
 refine ci func146 u ntmps146 (sr (lv (r_s u) (nsr (lv (r_0 u) (nq ?_)))))
 obtain⟨I,J,b⟩:=ob hm
 refine wc_cutg (IE I w K [] K [(0,sv q0)] []) ?_ ?_
 ·refine wc_block ?_
  obtain⟨au,O,s⟩:=ob J
  refine qw (fun (c:Int)=>IW w K [] K [(0,sv q0),(3,V6 c)] [] (rng64 c)) O ⟨K,u,hS,kr,d_0⟩ ?_
  rintro c _ aw ax R x ⟨ay,rfl,y,A,az⟩
  refine wc_seq (sr (mv u ?_))
  obtain⟨aA,S,T⟩:=ob R
  refine lk co176 (ok_spec_l2Ends F y.enter0 S) ?_
  rintro aB aC ⟨aD,aE,aF,U,rfl,d,V⟩
  have f:=(y.c0 d).t1
  refine lv (rv_len underlying22 u V) (lv (rv_lss u u) (nq (wcc T u (fun W i=>?_) (fun W i=>?_))))
  ·refine wc_skip (qs (wc_block (sr ?_)))
   obtain⟨aG,X,Y⟩:=ob i
   refine lk co176 (ok_spec_l2Ends F f.enter0 X) ?_
   rintro aH aI ⟨aJ,aK,aL,k,rfl,B,aa⟩
   have l:=(f.c0 B).t2
   refine mv u ?_
   obtain⟨C,ab,ac⟩:=ob Y
   refine li underlying22 tf9 aa ab fun ad ae aM af ag=>?_
   obtain⟨rfl,aN⟩:=af
   have ah:AtK _ ad ae [sv C]:=ag
   refine lv (rv_load1 tf9 u l (ah 0 _ u)) (av u (nr (mv u (lv (rv_slen underlying9 u) (mv u (lv (rv_slen underlying9 u) (lv (rv_sub u u) (av u (ns ?_)))))))))
   obtain⟨ai,aj,ak⟩:=ob ac
   refine wc_cutg (IV w K [] k [(0,sv q0),(3,V6 c),(5,V6 (w64 ((q0.length:Int)-(C.length:Int)))),(29,.bool ai)] []) ?_ ?_
   ·refine wc_region (mv u (lv (rv_geq u u) (mv u (bt aj (fun a m=>?_) (fun a m=>?_)))))
    ·refine lg a (rv_move u) (lg a (rv_move u) ?_)
     obtain⟨aO,al,am⟩:=ob m
     refine lg a (rv_ssl_l underlying9 u u al) (lg a (rv_move u) (lg a (rv_seql u u) (lv (rv_pick_t u a u) (wl_nil ?_))))
     cases oi am
     exact qd ⟨k,u,l.s,kr⟩
    iterate 5 refine lu a ?_
    refine lv (p_f u a u) (wl_nil ?_)
    cases oi m
    exact qd ⟨k,u,l.s,kr⟩
   rintro _ aP ⟨D,rfl,G,an⟩
   refine qe_seq (wcc ak u (fun ao o=>?_) (fun ao o=>?_))
   ·refine sr (mv u (mv u ?_))
    obtain⟨aQ,H,ap⟩:=ob o
    refine lv (rv_ssl_h underlying9 u u H) (av u (nq (wc_ret (qe_block_ret (qe_then_ret (qe_then_ret ?_))))))
    cases oi ap
    cases x _ u
    refine qe_block_ret (qe_then_ret ?_)
    cases oi s
    refine qe_then_ret ?_
    cases oi b
    exact ey results146 ⟨D,u,G,(len_sub q H)⟩
   refine wc_skip (qe_block (qe_seq (wc_region (mv u (lv (rv_add u u) (av u (wl_nil ?_)))))))
   cases oi o
   exact qd ⟨_,u,D,u,G,(((A.trans d.le).trans B.le).trans an),(w64_rng _)⟩
  refine wc_exit (qe_then_exit (qe_then_exit ?_))
  cases oi i
  cases x _ u
  refine qe_block_eq ?_
  cases oi s
  exact qd ⟨_,U,u,u,f.s,(A.trans d.le)⟩
 rintro _ w9 ⟨s5,K6,rfl,rfl,ar,aT⟩
 have b:=elim_l b
 refine qr (mv u (av u (nq (wc_ret ?_))))
 cases oi b
 exact ey results146 ⟨K6,u,ar,q⟩

theorem ok_spec_l2Stem {q0:Str}{r:Str}(hS:SH w K [] w K [])(o:q0.length≤maxLen)(hm:M.spec_l2Stem F q0=some r):
  Calls prog 100 #[sv q0] w fun e w'=>∃K',e= .returned (sv r)∧SH w K [] w' K' []∧r.length≤maxLen:=by
 rw [M.spec_l2Stem] at hm
 refine ci func100 u ntmps100 (sr (lv (r_s u) (ns ?_)))
 obtain⟨i,q,s⟩:=ob hm
 refine wc_cutg (IW w K [] K [(0,sv i)] [] (i.length≤maxLen)) ?_ ?_
 ·refine wc_block ?_
  obtain⟨W,x,y⟩:=ob q
  refine qw (fun (a:Str)=>IW w K [] K [(0,sv a)] [] (a.length≤maxLen)) x ⟨K,u,hS,kr,o⟩ ?_
  rintro a _ X Y A B ⟨aa,rfl,k,l,b⟩
  refine wc_seq (sr (mv u ?_))
  obtain⟨ab,C,D⟩:=ob A
  refine lk co146 (ok_spec_l2Once F k.enter0 b C) ?_
  rintro ac ad ⟨G,rfl,c,ae⟩
  have d:=(k.c0 c).t0
  refine mv u (lv (rv_sneq u u) (nq (wcc D u (fun H f=>?_) (fun H f=>?_))))
  ·refine wc_skip (qe_seq (wc_block (wc_region (mv u ?_))))
   obtain⟨af,I,J⟩:=ob f
   refine lk co146 (ok_spec_l2Once F d.enter0 b I) ?_
   rintro ag ah ⟨O,rfl,m,R⟩
   have S:=(d.c0 m).t0
   refine av u (nb ?_)
   cases oi J
   exact qd ⟨_,u,O,u,S,((l.trans c.le).trans m.le),R⟩
  refine wc_exit (qe_then_exit (qe_then_exit ?_))
  cases oi f
  cases B _ u
  refine qe_block_eq ?_
  cases oi y
  exact qd ⟨G,u,d,(l.trans c.le),b⟩
 rintro _ w7 ⟨T,rfl,U,aj,V⟩
 refine qr (mv u (av u (nq (wc_ret ?_))))
 cases oi s
 exact ey results100 ⟨T,u,U,V⟩

theorem ok_spec_l2Ok {q0:GConf}{r:Bool}(hS:SH w K [] w K [])(G:SliceAt tStr K A a b q0.Stops)(ae:SliceAt tGSyn K B c d q0.Syns)(hm:M.spec_l2Ok F q0=some r):
  Calls prog 62 #[.agg #[V3 A a b,V3 B c d]] w (R_b w K r):=by
 rw [M.spec_l2Ok] at hm
 refine ci func62 u ntmps62 (sr (bx u hS fun f dV aU=>?_))
 have aV:SH _ _ _ _ _ [obj f [V3 A a b,V3 B c d] 36]:=aU
 refine lv (r_f u) (nsr (lv (r_0 u) (nq ?_)))
 obtain⟨aW,aX,W⟩:=ob hm
 refine wc_cutg (IE aW w K [] K [(1,pt f)] [obj f [V3 A a b,V3 B c d] 36]) ?_ ?_
 ·refine wc_block ?_
  obtain⟨dW,aY,aC⟩:=ob aX
  refine qw (fun (X:Int)=>IW w K [] K [(1,pt f),(3,V6 X)] [obj f [V3 A a b,V3 B c d] 36] (rng64 X)) aY ⟨K,u,aV,kr,d_0⟩ ?_
  rintro X _ dX dY aZ aD ⟨aE,rfl,af,H,dZ⟩
  refine wc_seq (sr (mv u (fl ff36_0 u tf22 m0 af u (lv (rv_len underlying22 u (G.mono H)) (lv (rv_lss u u) (nq (wcc aZ u (fun ba ag=>?_) (fun ba ag=>?_))))))))
  ·refine wc_skip (qs (wc_block (wc_seq ?_)))
   obtain⟨bb,bc,bd⟩:=ob ag
   refine wc_cutg (IV w K [] aE [(1,pt f),(3,V6 X),(38,.bool bb)] [obj f [V3 A a b,V3 B c d] 36]) ?_ ?_
   ·refine wc_quiet mixed (by kernel_rfl) af (kv (rv_fieldAddr ff36_0 u) (kh (rq_loadm1 tf22 u m0 u) (km u ?_)))
    obtain⟨be,bf,bg⟩:=ob bc
    refine ki underlying22 tf9 (G.mono H) bf fun bh bi ea bj bk=>?_
    obtain⟨rfl,bl⟩:=bj
    have bm:AtK _ bh bi [sv be]:=bk
    refine kh (rq_load1 tf9 u (bm 0 _ u)) ?_
    obtain⟨eb,bn,bo⟩:=ob bg
    refine kc co44 (fun _ _ bp ec=>(ok_spec_l1WordOk F) bp.enter0 bl bn) (kv (rv_not u) (km u (bt bo (fun l ah=>?_) (fun l ah=>?_))))
    ·refine kn l (kn l (kn l ?_))
     iterate 12 refine ku ?_
     refine kn l (kv (p_t u l u) (wq_nil ?_))
     rintro ed ⟨bq,br,bs⟩
     cases oi ah
     exact qd ⟨bq,u,br,bs⟩
    refine kg l (rv_move u) (kg l (rv_gtr u u) (kg l (rv_move u) (bt ah (fun i ai=>?_) (fun i ai=>?_))))
    ·refine kg i (rv_fieldAddr ff36_0 u) (kgh i (rq_loadm1 tf22 u m0 u) (kg i (rv_move u) ?_))
     obtain⟨bu,bv,bz⟩:=ob ai
     refine wq_indexAddr (t:=tStr) (wg u u i) u underlying22 tf9 u u (G.mono H) bv fun bA bB ee bC bD=>?_
     obtain⟨rfl,ef⟩:=bC
     have bE:AtK _ bA bB [sv bu]:=bD
     refine kgh i (rq_load1 tf9 u (bE 0 _ u)) (kg i (rv_fieldAddr ff36_0 u) (kgh i (rq_loadm1 tf22 u m0 u) (kg i (rv_move u) (kg i (rv_sub u u) ?_))))
     obtain⟨bF,bG,bH⟩:=ob bz
     refine wq_indexAddr (t:=tStr) (wg u u i) u underlying22 tf9 u u (G.mono H) bG fun bI bJ eg bK bL=>?_
     obtain⟨rfl,eh⟩:=bK
     have bM:AtK _ bI bJ [sv bF]:=bL
     refine kgh i (rq_load1 tf9 u (bM 0 _ u)) (kg i (rv_sleq u u) (kg l (rv_pick_t u i u) (kv (rv_pick_f u l u) (wq_nil ?_))))
     rintro ei ⟨bN,bO,bP⟩
     cases oi bH
     exact qd ⟨bN,u,bO,bP⟩
    iterate 12 refine kn i ?_
    refine kg l (p_f u i u) (kv (rv_pick_f u l u) (wq_nil ?_))
    rintro ej ⟨bQ,bR,bS⟩
    cases oi ai
    exact qd ⟨bQ,u,bR,bS⟩
   rintro _ ek ⟨aF,rfl,aG,bT⟩
   refine qe_seq (wcc bd u (fun bU aj=>?_) (fun bU aj=>?_))
   ·refine sr (lv (r_f u) (nq (wc_ret (qe_block_ret (qe_then_ret (qe_then_ret ?_))))))
    cases oi aj
    cases aD _ u
    refine qe_block_ret (qe_then_ret ?_)
    cases oi aC
    refine qe_then_ret ?_
    cases oi W
    exact ey results62 ⟨aF,u,aG.s⟩
   refine wc_skip (qe_block (qe_seq (wc_region (mv u (lv (rv_add u u) (av u (wl_nil ?_)))))))
   cases oi aj
   exact qd ⟨_,u,aF,u,aG,(H.trans bT),(w64_rng _)⟩
  refine wc_exit (qe_then_exit (qe_then_exit ?_))
  cases oi ag
  cases aD _ u
  refine qe_block_eq ?_
  cases oi aC
  exact qd ⟨_,aE,u,u,af,H⟩
 rintro _ el ⟨em,ak,rfl,rfl,bV,I⟩
 have W:=elim_l W
 refine qs (sr (lv (r_0 u) (nq ?_)))
 obtain⟨bW,bX,J⟩:=ob W
 refine wc_cutg (IE bW w K [] ak [(1,pt f)] [obj f [V3 A a b,V3 B c d] 36]) ?_ ?_
 ·refine wc_block ?_
  obtain⟨en,bY,am⟩:=ob bX
  refine qw (fun (y:Int)=>IW w K [] ak [(1,pt f),(4,V6 y)] [obj f [V3 A a b,V3 B c d] 36] (rng64 y)) bY ⟨ak,u,bV,kr,d_0⟩ ?_
  rintro y _ eo ep bZ an ⟨Y,rfl,O,R,eq⟩
  refine wc_seq (sr (mv u (fl ff36_1 u tf34 m0 O u (lv (rv_len underlying34 u (ae.mono (I.trans R))) (lv (rv_lss u u) (nq (wcc bZ u (fun ca ao=>?_) (fun ca ao=>?_))))))))
  ·refine wc_skip (qs (wc_block (sr (fl ff36_1 u tf34 m0 O u (mv u ?_)))))
   obtain⟨S,cb,cc⟩:=ob ao
   refine li underlying34 tf120 (ae.mono (I.trans R)) cb fun cd ce es cf cg=>?_
   obtain⟨T,U,V,rfl,C,ap⟩:=cf
   have ch:AtK _ cd ce [V3 T U V,sv S.To]:=cg
   refine lv (rv_loadS tf120 u O ch u) (al tf120 O fun D et cj=>?_)
   have ck:SH _ _ _ _ _ [obj D [V3 none 0 0,sv []] 120,_]:=cj
   refine lw [V3 T U V,sv S.To] tf120 ck fun eu cl=>(nsr (lv (r_0 u) (nq ?_)))
   obtain⟨cm,cn,aa⟩:=ob cc
   refine wc_cutg (IE cm w K [] Y [(1,pt f),(4,V6 y),(5,pt D)] [obj f [V3 A a b,V3 B c d] 36,obj D [V3 T U V,sv S.To] 120]) ?_ ?_
   ·refine wc_block ?_
    obtain⟨ev,cp,aH⟩:=ob cn
    refine qw (fun (ab:Int)=>IW w K [] Y [(1,pt f),(4,V6 y),(5,pt D),(6,V6 ab)] [obj f [V3 A a b,V3 B c d] 36,obj D [V3 T U V,sv S.To] 120] (rng64 ab)) cp ⟨Y,u,cl.f1,kr,d_0⟩ ?_
    rintro ab _ ew ex cq aI ⟨aJ,rfl,ac,x,eA⟩
    refine wc_seq (sr (mv u (fl ff120_0 u tf22 m1 ac u (lv (rv_len underlying22 u (C.mono x)) (lv (rv_lss u u) (nq (wcc cq u (fun cr aq=>?_) (fun cr aq=>?_))))))))
    ·refine wc_skip (qs (wc_block (wc_seq ?_)))
     obtain⟨cs,ct,cu⟩:=ob aq
     refine wc_cutg (IV w K [] aJ [(1,pt f),(4,V6 y),(5,pt D),(6,V6 ab),(88,.bool cs)] [obj f [V3 A a b,V3 B c d] 36,obj D [V3 T U V,sv S.To] 120]) ?_ ?_
     ·refine wc_quiet mixed (by kernel_rfl) ac (kv (rv_fieldAddr ff120_0 u) (kh (rq_loadm1 tf22 u m1 u) (km u ?_)))
      obtain⟨cv,cw,cx⟩:=ob ct
      refine ki underlying22 tf9 (C.mono x) cw fun cy cz eB cA cB=>?_
      obtain⟨rfl,cC⟩:=cA
      have cD:AtK _ cy cz [sv cv]:=cB
      refine kh (rq_load1 tf9 u (cD 0 _ u)) ?_
      obtain⟨eC,cE,cF⟩:=ob cx
      refine kc co44 (fun _ _ cG eD=>(ok_spec_l1WordOk F) cG.enter0 cC cE) (kv (rv_not u) (km u (bt cF (fun k ar=>?_) (fun k ar=>?_))))
      ·iterate 12 refine kn k ?_
       refine kv (p_t u k u) (km u ?_)
       iterate 8 refine qv u u u u ?_
       refine kv (p_t u u u) (wq_nil ?_)
       rintro eE ⟨cH,cI,cJ⟩
       cases oi ar
       exact qd ⟨cH,u,cI,cJ⟩
      refine kg k (rv_fieldAddr ff120_0 u) (kgh k (rq_loadm1 tf22 u m1 u) (kg k (rv_move u) ?_))
      obtain⟨cK,cL,cM⟩:=ob ar
      refine wq_indexAddr (t:=tStr) (wg u u k) u underlying22 tf9 u u (C.mono x) cL fun cN cO eF cP cQ=>?_
      obtain⟨rfl,aK⟩:=cP
      have cR:AtK _ cN cO [sv cK]:=cQ
      refine kgh k (rq_load1 tf9 u (cR 0 _ u)) ?_
      obtain⟨eG,aL,cS⟩:=ob cM
      refine kdg k co100 (fun _ _ cT eH=>(ok_spec_l2Stem F) cT.enter0 aK aL) ?_
      obtain⟨_,_,_,⟨_,_,_,eI⟩,_⟩:=(ok_spec_l2Stem F) ac.enter0 aK aL []
      refine kg k (rv_fieldAddr ff120_0 u) (kgh k (rq_loadm1 tf22 u m1 u) (kg k (rv_move u) ?_))
      obtain⟨cU,cV,cW⟩:=ob cS
      refine wq_indexAddr (t:=tStr) (wg u u k) u underlying22 tf9 u u (C.mono x) cV fun cX cY eJ cZ da=>?_
      obtain⟨rfl,eK⟩:=cZ
      have db:AtK _ cX cY [sv cU]:=da
      refine kgh k (rq_load1 tf9 u (db 0 _ u)) (kg k (rv_sneq u u) (kv (rv_pick_f u k u) (km u (bt cW (fun m au=>?_) (fun m au=>?_)))))
      ·iterate 8 refine kn m ?_
       refine kv (p_t u m u) (wq_nil ?_)
       rintro eL ⟨dc,dd,de⟩
       cases oi au
       exact qd ⟨dc,u,dd,de⟩
      refine kg m (rv_fieldAddr ff36_0 u) (kgh m (rq_loadm1 tf22 u m0 u) (kg m (rv_fieldAddr ff120_0 u) (kgh m (rq_loadm1 tf22 u m1 u) (kg m (rv_move u) ?_))))
      obtain⟨df,dg,dh⟩:=ob au
      refine wq_indexAddr (t:=tStr) (wg u u m) u underlying22 tf9 u u (C.mono x) dg fun di dj eM dk dl=>?_
      obtain⟨rfl,dm⟩:=dk
      have dn:AtK _ di dj [sv df]:=dl
      refine kgh m (rq_load1 tf9 u (dn 0 _ u)) ?_
      obtain⟨eN,dp,dq⟩:=ob dh
      refine kcg m co48 (fun _ _ dr ds=>(ok_spec_l2Has F) dr.enter0 (SliceAt.mono (((I.trans R).trans x).trans ds) G) dm dp) (kv (rv_pick_f u m u) (wq_nil ?_))
      rintro eO ⟨dt,du,dv⟩
      cases oi dq
      exact qd ⟨dt,u,du,dv⟩
     rintro _ eP ⟨aM,rfl,aN,dw⟩
     refine qe_seq (wcc cu u (fun dx aw=>?_) (fun dx aw=>?_))
     ·refine sr (lv (r_f u) (nq (wc_ret (qe_block_ret (qe_then_ret (qe_then_ret ?_))))))
      cases oi aw
      cases aI _ u
      refine qe_block_ret (qe_then_ret ?_)
      cases oi aH
      refine qe_then_ret (qe_block_ret (qe_then_ret (qe_then_ret ?_)))
      cases oi aa
      cases an _ u
      refine qe_block_ret (qe_then_ret ?_)
      cases oi am
      refine qe_then_ret ?_
      cases oi J
      exact ey results62 ⟨aM,u,aN.s⟩
     refine wc_skip (qe_block (qe_seq (wc_region (mv u (lv (rv_add u u) (av u (wl_nil ?_)))))))
     cases oi aw
     exact qd ⟨_,u,aM,u,aN,(x.trans dw),(w64_rng _)⟩
    refine wc_exit (qe_then_exit (qe_then_exit ?_))
    cases oi aq
    cases aI _ u
    refine qe_block_eq ?_
    cases oi aH
    exact qd ⟨_,aJ,u,u,ac,x⟩
   rintro _ eQ ⟨eR,dy,rfl,rfl,aO,ax⟩
   have aa:=elim_l aa
   refine qs ?_
   obtain⟨dz,dA,dB⟩:=ob aa
   refine wc_cutg (IV w K [] dy [(1,pt f),(4,V6 y),(107,.bool dz)] [obj f [V3 A a b,V3 B c d] 36]) ?_ ?_
   ·refine wc_quiet mixed (by kernel_rfl) aO (kv (rv_fieldAddr ff120_0 u) (kh (rq_loadm1 tf22 u m1 u) (kv (rv_len underlying22 u (C.mono ax)) ?_)))
    obtain⟨eS,dC,dD⟩:=ob dA
    refine kc co46 (fun _ _ dE eT=>(ok_spec_l1In F) dE.enter0 (C.mono ax).rn (by decide :rng64 1) (by decide :rng64 3) dC) (kv (rv_not u) (km u (bt dD (fun o ay=>?_) (fun o ay=>?_))))
    ·refine kn o (kn o (kn o (kn o (kv (p_t u o u) (km u ?_)))))
     iterate 6 refine qv u u u u ?_
     refine kv (p_t u u u) (wq_nil ?_)
     rintro eU ⟨dF,dG,dH⟩
     cases oi ay
     exact qd ⟨dF,u,dG.s,dH⟩
    refine kg o (rv_fieldAddr ff120_1 u) (kgh o (rq_loadm1 tf9 u m1 u) ?_)
    obtain⟨eV,dI,dJ⟩:=ob ay
    refine kcg o co44 (fun _ _ dK eW=>(ok_spec_l1WordOk F) dK.enter0 ap dI) (kg o (rv_not u) (kv (rv_pick_f u o u) (km u (bt dJ (fun s az=>?_) (fun s az=>?_)))))
    ·iterate 6 refine kn s ?_
     refine kv (p_t u s u) (wq_nil ?_)
     rintro eX ⟨dL,dM,dN⟩
     cases oi az
     exact qd ⟨dL,u,dM.s,dN⟩
    refine kg s (rv_fieldAddr ff120_1 u) (kgh s (rq_loadm1 tf9 u m1 u) ?_)
    obtain⟨eY,aP,dO⟩:=ob az
    refine kdg s co100 (fun _ _ dP eZ=>(ok_spec_l2Stem F) dP.enter0 ap aP) ?_
    obtain⟨_,_,_,⟨_,_,_,fb⟩,_⟩:=(ok_spec_l2Stem F) aO.enter0 ap aP []
    refine kg s (rv_fieldAddr ff120_1 u) (kgh s (rq_loadm1 tf9 u m1 u) (kg s (rv_sneq u u) (kv (rv_pick_f u s u) (wq_nil ?_))))
    rintro fc ⟨dQ,dR,dS⟩
    cases oi dO
    exact qd ⟨dQ,u,dR.s,dS⟩
   rintro _ fd ⟨aQ,rfl,aR,dT⟩
   refine qe_seq (wcc dB u (fun dU aA=>?_) (fun dU aA=>?_))
   ·refine sr (lv (r_f u) (nq (wc_ret (qe_block_ret (qe_then_ret (qe_then_ret ?_))))))
    cases oi aA
    cases an _ u
    refine qe_block_ret (qe_then_ret ?_)
    cases oi am
    refine qe_then_ret ?_
    cases oi J
    exact ey results62 ⟨aQ,u,aR.s⟩
   refine wc_skip (qe_block (qe_seq (wc_region (mv u (lv (rv_add u u) (av u (wl_nil ?_)))))))
   cases oi aA
   exact qd ⟨_,u,aQ,u,aR,((R.trans ax).trans dT),(w64_rng _)⟩
  refine wc_exit (qe_then_exit (qe_then_exit ?_))
  cases oi ao
  cases an _ u
  refine qe_block_eq ?_
  cases oi am
  exact qd ⟨_,Y,u,u,O,R⟩
 rintro _ fe ⟨fg,aS,rfl,rfl,ad,aT⟩
 have J:=elim_l J
 refine qr (fl ff36_0 u tf22 m0 ad u (lv (rv_len underlying22 u (G.mono (I.trans aT))) (lv (rv_leq u u) (mv u (bt J (fun q aB=>?_) (fun q aB=>?_))))))
 ·refine lg q (rv_fieldAddr ff36_1 u) (lg q (rv_loadm1 tf34 u m0 ad u) (lg q (rv_len underlying34 u (ae.mono (I.trans aT))) (lg q (rv_leq u u) (lv (rv_pick_t u q u) (av u (nq (wc_ret ?_)))))))
  cases oi aB
  exact ey results62 ⟨aS,u,ad.s⟩
 refine lu q (lu q (lu q (lu q (lv (p_f u q u) (av u (nq (wc_ret ?_)))))))
 cases oi aB
 exact ey results62 ⟨aS,u,ad.s⟩

theorem ok_spec_l1Text {q0:Str}{r:Bool}(hS:SH w K [] w K [])(Y:q0.length≤maxLen)(hm:M.spec_l1Text F q0=some r):
  Calls prog 147 #[sv q0] w (R_b w K r):=by
 rw [M.spec_l1Text] at hm
 refine ci func147 u ntmps147 (sr (lv (r_f u) (nsr (lv (r_0 u) (nq ?_)))))
 obtain⟨A,B,c⟩:=ob hm
 refine wc_cutg (IE A w K [] K [(0,sv q0)] []) ?_ ?_
 ·refine wc_block ?_
  obtain⟨aa,C,o⟩:=ob B
  refine qw (fun (d:Int)=>IW w K [] K [(0,sv q0),(3,V6 d)] [] (rng64 d)) C ⟨K,u,hS,kr,d_0⟩ ?_
  rintro d _ ab ac D q ⟨f,rfl,i,s,ad⟩
  refine wc_seq (sr (mv u (mv u (lv (rv_slen underlying9 u) (lv (rv_lss u u) (nq (wcc D u (fun G k=>?_) (fun G k=>?_))))))))
  ·refine wc_skip (qs (wc_block (wc_seq ?_)))
   obtain⟨H,I,J⟩:=ob k
   refine wc_cutg (IV w K [] f [(0,sv q0),(3,V6 d),(19,.bool H)] []) ?_ ?_
   ·refine wc_region (mv u (mv u ?_))
    obtain⟨ae,O,R⟩:=ob I
    refine lv (rv_sidx underlying9 u u O) (lv (rv_bl (b:=(32:UInt8)) u u) (mv u (bt R (fun a l=>?_) (fun a l=>?_))))
    ·refine lu a (lu a (lu a (lu a (lv (p_t u a u) (wl_nil ?_)))))
     cases oi l
     exact qd ⟨f,u,i,kr⟩
    refine lg a (rv_move u) (lg a (rv_move u) ?_)
    obtain⟨af,S,T⟩:=ob l
    refine lg a (rv_sidx underlying9 u u S) (lg a (rv_bg (b:=(126:UInt8)) u u) (lv (rv_pick_f u a u) (wl_nil ?_)))
    cases oi T
    exact qd ⟨f,u,i,kr⟩
   rintro _ ag ⟨x,rfl,y,U⟩
   refine qe_seq (wcc J u (fun V m=>?_) (fun V m=>?_))
   ·refine sr (lv (r_f u) (nq (wc_ret (qe_block_ret (qe_then_ret (qe_then_ret ?_))))))
    cases oi m
    cases q _ u
    refine qe_block_ret (qe_then_ret ?_)
    cases oi o
    refine qe_then_ret ?_
    cases oi c
    exact ey results147 ⟨x,u,y⟩
   refine wc_skip (qe_block (qe_seq (wc_region (mv u (lv (rv_add u u) (av u (wl_nil ?_)))))))
   cases oi m
   exact qd ⟨_,u,x,u,y,(s.trans U),(w64_rng _)⟩
  refine wc_exit (qe_then_exit (qe_then_exit ?_))
  cases oi k
  cases q _ u
  refine qe_block_eq ?_
  cases oi o
  exact qd ⟨_,f,u,u,i,s⟩
 rintro _ w9 ⟨s5,W,rfl,rfl,X,aj⟩
 have c:=elim_l c
 refine qr (mv u (lv (rv_slen underlying9 u) (lv (rv_leq u u) (av u (nq (wc_ret ?_))))))
 cases oi c
 exact ey results147 ⟨W,u,X⟩

theorem ok_spec_l6Ok {q0:GDoc}{r:Bool}(hS:SH w K [] w K [])(aJ:rng64 q0.Id)(G:SliceAt tGField K A a b q0.Fields)(D:SliceAt tGAttr K B c d q0.Nums)(hm:M.spec_l6Ok F q0=some r):
  Calls prog 101 #[.agg #[V6 q0.Id,V3 A a b,V3 B c d]] w (R_b w K r):=by
 rw [M.spec_l6Ok] at hm
 refine ci func101 u ntmps101 (sr (bx u hS fun k da aK=>?_))
 have aL:SH _ _ _ _ _ [obj k [V6 q0.Id,V3 A a b,V3 B c d] 89]:=aK
 refine lv (r_f u) (nsr (lv (r_0 u) (nq ?_)))
 obtain⟨aM,aN,J⟩:=ob hm
 refine wc_cutg (IE aM w K [] K [(1,pt k)] [obj k [V6 q0.Id,V3 A a b,V3 B c d] 89]) ?_ ?_
 ·refine wc_block ?_
  obtain⟨db,aO,ap⟩:=ob aN
  refine qw (fun (O:Int)=>IW w K [] K [(1,pt k),(3,V6 O)] [obj k [V6 q0.Id,V3 A a b,V3 B c d] 89] (rng64 O)) aO ⟨K,u,aL,kr,d_0⟩ ?_
  rintro O _ dc dd aP aq ⟨ar,rfl,H,I,de⟩
  refine wc_seq (sr (mv u (fl ff89_1 u tf86 m0 H u (lv (rv_len underlying86 u (G.mono I)) (lv (rv_lss u u) (nq (wcc aP u (fun aQ W=>?_) (fun aQ W=>?_))))))))
  ·refine wc_skip (qs (wc_block (sr (fl ff89_1 u tf86 m0 H u (mv u ?_)))))
   obtain⟨R,aR,aS⟩:=ob W
   refine li underlying86 tf170 (G.mono I) aR fun aT aU df aV aW=>?_
   obtain⟨rfl,aX,aY⟩:=aV
   have aZ:AtK _ aT aU [sv R.Name,sv R.Text]:=aW
   refine lv (rv_loadS tf170 u H aZ u) (al tf170 H fun ba dg bb=>?_)
   have bc:SH _ _ _ _ _ [obj ba [sv [],sv []] 170,_]:=bb
   refine lw [sv R.Name,sv R.Text] tf170 bc fun dh bd=>(ns ?_)
   obtain⟨be,bf,bg⟩:=ob aS
   refine wc_cutg (IV w K [] ar [(1,pt k),(3,V6 O),(43,.bool be)] [obj k [V6 q0.Id,V3 A a b,V3 B c d] 89]) ?_ ?_
   ·refine wc_quiet mixed (by kernel_rfl) bd (kv (rv_fieldAddr ff170_0 u) (kh (rq_loadm1 tf9 u m0 u) ?_))
    obtain⟨di,bh,bi⟩:=ob bf
    refine kc co44 (fun _ _ bj dj=>(ok_spec_l1WordOk F) bj.enter0 aX bh) (kv (rv_not u) (km u (bt bi (fun q X=>?_) (fun q X=>?_))))
    ·refine kn q (kn q (kn q (kn q (kv (p_t u q u) (km u (qv u u u u (qv u u u u (qv u u u u ?_))))))))
     iterate 10 refine ku ?_
     refine qv u u u u (kv (p_t u u u) (wq_nil ?_))
     rintro dk ⟨bk,bl,bm⟩
     cases oi X
     exact qd ⟨bk,u,bl.s,bm⟩
    refine kg q (rv_fieldAddr ff170_1 u) (kgh q (rq_loadm1 tf9 u m0 u) ?_)
    obtain⟨dl,bn,bo⟩:=ob X
    refine kcg q co147 (fun _ _ bp dm=>(ok_spec_l1Text F) bp.enter0 aY bn) (kg q (rv_not u) (kv (rv_pick_f u q u) (km u (bt bo (fun l Y=>?_) (fun l Y=>?_)))))
    ·refine kn l (kn l (kn l ?_))
     iterate 10 refine ku ?_
     refine kn l (kv (p_t u l u) (wq_nil ?_))
     rintro dn ⟨bq,br,bs⟩
     cases oi Y
     exact qd ⟨bq,u,br.s,bs⟩
    refine kg l (rv_move u) (kg l (rv_gtr u u) (kg l (rv_move u) (bt Y (fun i aa=>?_) (fun i aa=>?_))))
    ·refine kg i (rv_fieldAddr ff170_0 u) (kgh i (rq_loadm1 tf9 u m0 u) (kg i (rv_fieldAddr ff89_1 u) (kgh i (rq_loadm1 tf86 u m1 u) (kg i (rv_move u) (kg i (rv_sub u u) ?_)))))
     obtain⟨au,bu,bv⟩:=ob aa
     refine wq_indexAddr (t:=tGField) (wg u u i) u underlying86 tf170 u u (G.mono I) bu fun bz bA dp bB bC=>?_
     obtain⟨rfl,dq,dr⟩:=bB
     have bD:AtK _ bz bA [sv au.Name,sv au.Text]:=bC
     refine kg i (rv_fieldAddr ff170_0 u) (kgh i (rq_load1 tf9 u (bD 0 _ u)) (kg i (rv_sleq u u) (kg l (rv_pick_t u i u) (kv (rv_pick_f u l u) (wq_nil ?_)))))
     rintro ds ⟨bE,bF,bG⟩
     cases oi bv
     exact qd ⟨bE,u,bF.s,bG⟩
    iterate 10 refine kn i ?_
    refine kg l (p_f u i u) (kv (rv_pick_f u l u) (wq_nil ?_))
    rintro dt ⟨bH,bI,bJ⟩
    cases oi aa
    exact qd ⟨bH,u,bI.s,bJ⟩
   rintro _ du ⟨aw,rfl,ax,bK⟩
   refine qe_seq (wcc bg u (fun bL ab=>?_) (fun bL ab=>?_))
   ·refine sr (lv (r_f u) (nq (wc_ret (qe_block_ret (qe_then_ret (qe_then_ret ?_))))))
    cases oi ab
    cases aq _ u
    refine qe_block_ret (qe_then_ret ?_)
    cases oi ap
    refine qe_then_ret ?_
    cases oi J
    exact ey results101 ⟨aw,u,ax.s⟩
   refine wc_skip (qe_block (qe_seq (wc_region (mv u (lv (rv_add u u) (av u (wl_nil ?_)))))))
   cases oi ab
   exact qd ⟨_,u,aw,u,ax,(I.trans bK),(w64_rng _)⟩
  refine wc_exit (qe_then_exit (qe_then_exit ?_))
  cases oi W
  cases aq _ u
  refine qe_block_eq ?_
  cases oi ap
  exact qd ⟨_,ar,u,u,H,I⟩
 rintro _ dv ⟨dw,ac,rfl,rfl,bM,y⟩
 have J:=elim_l J
 refine qs (sr (lv (r_0 u) (nq ?_)))
 obtain⟨bN,bO,S⟩:=ob J
 refine wc_cutg (IE bN w K [] ac [(1,pt k)] [obj k [V6 q0.Id,V3 A a b,V3 B c d] 89]) ?_ ?_
 ·refine wc_block ?_
  obtain⟨dx,bP,ay⟩:=ob bO
  refine qw (fun (T:Int)=>IW w K [] ac [(1,pt k),(5,V6 T)] [obj k [V6 q0.Id,V3 A a b,V3 B c d] 89] (rng64 T)) bP ⟨ac,u,bM,kr,d_0⟩ ?_
  rintro T _ dy dz bQ az ⟨aA,rfl,ad,C,dA⟩
  refine wc_seq (sr (mv u (fl ff89_2 u tf87 m0 ad u (lv (rv_len underlying87 u (D.mono (y.trans C))) (lv (rv_lss u u) (nq (wcc bQ u (fun bR ae=>?_) (fun bR ae=>?_))))))))
  ·refine wc_skip (qs (wc_block (wc_seq ?_)))
   obtain⟨bS,bT,bU⟩:=ob ae
   refine wc_cutg (IV w K [] aA [(1,pt k),(5,V6 T),(88,.bool bS)] [obj k [V6 q0.Id,V3 A a b,V3 B c d] 89]) ?_ ?_
   ·refine wc_quiet mixed (by kernel_rfl) ad (kv (rv_fieldAddr ff89_2 u) (kh (rq_loadm1 tf87 u m0 u) (km u ?_)))
    obtain⟨aB,bV,bW⟩:=ob bT
    refine ki underlying87 tf183 (D.mono (y.trans C)) bV fun bX bY dB bZ ca=>?_
    obtain⟨rfl,cb,dC⟩:=bZ
    have cc:AtK _ bX bY [sv aB.Name,V6 aB.Num]:=ca
    refine kv (rv_fieldAddr ff183_0 u) (kh (rq_load1 tf9 u (cc 0 _ u)) ?_)
    obtain⟨dD,cd,ce⟩:=ob bW
    refine kc co44 (fun _ _ cf dE=>(ok_spec_l1WordOk F) cf.enter0 cb cd) (kv (rv_not u) (km u (bt ce (fun o af=>?_) (fun o af=>?_))))
    ·iterate 8 refine kn o ?_
     refine kv (p_t u o u) (km u (qv u u u u (qv u u u u (qv u u u u ?_))))
     iterate 14 refine ku ?_
     refine qv u u u u (kv (p_t u u u) (wq_nil ?_))
     rintro dF ⟨cg,ch,cj⟩
     cases oi af
     exact qd ⟨cg,u,ch,cj⟩
    refine kg o (rv_fieldAddr ff89_2 u) (kgh o (rq_loadm1 tf87 u m0 u) (kg o (rv_move u) ?_))
    obtain⟨aC,ck,cl⟩:=ob af
    refine wq_indexAddr (t:=tGAttr) (wg u u o) u underlying87 tf183 u u (D.mono (y.trans C)) ck fun cm cn dG cp cq=>?_
    obtain⟨rfl,dH,cr⟩:=cp
    have cs:AtK _ cm cn [sv aC.Name,V6 aC.Num]:=cq
    refine kg o (rv_fieldAddr ff183_1 u) (kgh o (rq_load1 tf3 u (cs 1 _ u)) ?_)
    obtain⟨dI,ct,cu⟩:=ob cl
    refine kcg o co46 (fun _ _ cv dJ=>(ok_spec_l1In F) cv.enter0 cr d_0 (by decide :rng64 999999999) ct) (kg o (rv_not u) (kv (rv_pick_f u o u) (km u (bt cu (fun m ag=>?_) (fun m ag=>?_)))))
    ·refine kn m (kn m (kn m ?_))
     iterate 14 refine ku ?_
     refine kn m (kv (p_t u m u) (wq_nil ?_))
     rintro dK ⟨cw,cx,cy⟩
     cases oi ag
     exact qd ⟨cw,u,cx,cy⟩
    refine kg m (rv_move u) (kg m (rv_gtr u u) (kg m (rv_move u) (bt ag (fun f ah=>?_) (fun f ah=>?_))))
    ·refine kg f (rv_fieldAddr ff89_2 u) (kgh f (rq_loadm1 tf87 u m0 u) (kg f (rv_move u) ?_))
     obtain⟨aD,cz,cA⟩:=ob ah
     refine wq_indexAddr (t:=tGAttr) (wg u u f) u underlying87 tf183 u u (D.mono (y.trans C)) cz fun cB cC dL cD cE=>?_
     obtain⟨rfl,dM,dN⟩:=cD
     have cF:AtK _ cB cC [sv aD.Name,V6 aD.Num]:=cE
     refine kg f (rv_fieldAddr ff183_0 u) (kgh f (rq_load1 tf9 u (cF 0 _ u)) (kg f (rv_fieldAddr ff89_2 u) (kgh f (rq_loadm1 tf87 u m0 u) (kg f (rv_move u) (kg f (rv_sub u u) ?_)))))
     obtain⟨aE,cG,cH⟩:=ob cA
     refine wq_indexAddr (t:=tGAttr) (wg u u f) u underlying87 tf183 u u (D.mono (y.trans C)) cG fun cI cJ dO cK cL=>?_
     obtain⟨rfl,dP,dQ⟩:=cK
     have cM:AtK _ cI cJ [sv aE.Name,V6 aE.Num]:=cL
     refine kg f (rv_fieldAddr ff183_0 u) (kgh f (rq_load1 tf9 u (cM 0 _ u)) (kg f (rv_sleq u u) (kg m (rv_pick_t u f u) (kv (rv_pick_f u m u) (wq_nil ?_)))))
     rintro dR ⟨cN,cO,cP⟩
     cases oi cH
     exact qd ⟨cN,u,cO,cP⟩
    iterate 14 refine kn f ?_
    refine kg m (p_f u f u) (kv (rv_pick_f u m u) (wq_nil ?_))
    rintro dS ⟨cQ,cR,cS⟩
    cases oi ah
    exact qd ⟨cQ,u,cR,cS⟩
   rintro _ dT ⟨aF,rfl,aG,cT⟩
   refine qe_seq (wcc bU u (fun cU ai=>?_) (fun cU ai=>?_))
   ·refine sr (lv (r_f u) (nq (wc_ret (qe_block_ret (qe_then_ret (qe_then_ret ?_))))))
    cases oi ai
    cases az _ u
    refine qe_block_ret (qe_then_ret ?_)
    cases oi ay
    refine qe_then_ret ?_
    cases oi S
    exact ey results101 ⟨aF,u,aG.s⟩
   refine wc_skip (qe_block (qe_seq (wc_region (mv u (lv (rv_add u u) (av u (wl_nil ?_)))))))
   cases oi ai
   exact qd ⟨_,u,aF,u,aG,(C.trans cT),(w64_rng _)⟩
  refine wc_exit (qe_then_exit (qe_then_exit ?_))
  cases oi ae
  cases az _ u
  refine qe_block_eq ?_
  cases oi ay
  exact qd ⟨_,aA,u,u,ad,C⟩
 rintro _ dU ⟨dV,dW,rfl,rfl,aj,ak⟩
 have S:=elim_l S
 refine qr (fl ff89_0 u tf3 m0 aj u ?_)
 obtain⟨dX,cV,cW⟩:=ob S
 refine lk co46 (ok_spec_l1In F aj.enter0 aJ (by decide :rng64 1) (by decide :rng64 9999) cV) ?_
 rintro dY dZ ⟨cX,rfl,U⟩
 have V:=(aj.c0 U).t1
 refine mv u (bt cW (fun s am=>?_) (fun s am=>?_))
 ·refine lg s (rv_fieldAddr ff89_1 u) (lg s (rv_loadm1 tf86 u m0 V u) (lg s (rv_len underlying86 u (G.mono ((y.trans ak).trans U.le))) ?_))
  obtain⟨ea,cY,cZ⟩:=ob am
  refine wl_call (wg u u s) u (rt_call (vs:=[V6 (q0.Fields.length:Int),V6 0,V6 3]) co46 u) (ok_spec_l1In F V.enter0 (rng_nat (SliceAt.max (G.mono ((y.trans ak).trans U.le)))) d_0 (by decide :rng64 3) cY) ?_
  rintro eb ec ⟨aH,rfl,aI⟩
  refine⟨_,u,?_⟩
  have an:=(V.c0 aI).t1
  refine lv (rv_pick_t u s u) (mv u (bt cZ (fun x ao=>?_) (fun x ao=>?_)))
  ·refine lg x (rv_fieldAddr ff89_2 u) (lg x (rv_loadm1 tf87 u m0 an u) (lg x (rv_len underlying87 u (SliceAt.mono (((y.trans ak).trans U.le).trans aI.le) D)) (lg x (rv_leq u u) (lv (rv_pick_t u x u) (av u (nq (wc_ret ?_)))))))
   cases oi ao
   exact ey results101 ⟨aH,u,an.s⟩
  refine lu x (lu x (lu x (lu x (lv (p_f u x u) (av u (nq (wc_ret ?_)))))))
  cases oi ao
  exact ey results101 ⟨aH,u,an.s⟩
 refine lu s (lu s (lu s (lu s (lv (p_f u s u) (mv u (lu u (lu u (lu u (lu u ?_)))))))))
 refine lv (p_f u u u) (av u (nq (wc_ret ?_)))
 cases oi am
 exact ey results101 ⟨cX,u,V.s⟩

theorem ok_spec_l6Docs {q0:List GDoc}{r:Bool}(hS:SH w K [] w K [])(i:SliceAt tGDoc K A a b q0)(hm:M.spec_l6Docs F q0=some r):
  Calls prog 63 #[V3 A a b] w (R_b w K r):=by
 rw [M.spec_l6Docs] at hm
 refine ci func63 u ntmps63 (sr (lv (r_f u) (nsr (lv (r_0 u) (nq ?_)))))
 obtain⟨I,J,k⟩:=ob hm
 refine wc_cutg (IE I w K [] K [(0,V3 A a b)] []) ?_ ?_
 ·refine wc_block ?_
  obtain⟨bk,O,x⟩:=ob J
  refine qw (fun (l:Int)=>IW w K [] K [(0,V3 A a b),(3,V6 l)] [] (rng64 l)) O ⟨K,u,hS,kr,d_0⟩ ?_
  rintro l _ bl bm R y ⟨B,rfl,C,f,bn⟩
  refine wc_seq (sr (mv u (mv u (lv (rv_len underlying38 u (i.mono f)) (lv (rv_lss u u) (nq (wcc R u (fun S m=>?_) (fun S m=>?_))))))))
  ·refine wc_skip (qs (wc_block (wc_seq ?_)))
   obtain⟨T,U,V⟩:=ob m
   refine wc_cutg (IV w K [] B [(0,V3 A a b),(3,V6 l),(33,.bool T)] []) ?_ ?_
   ·refine wc_quiet mixed (by kernel_rfl) C (km u (km u ?_))
    obtain⟨W,X,Y⟩:=ob U
    refine ki underlying38 tf89 (i.mono f) X fun aa ab bo ac ad=>?_
    obtain⟨ae,af,ag,ah,ai,aj,rfl,ak,al,am⟩:=ac
    have an:AtK _ aa ab [V6 W.Id,V3 ae af ag,V3 ah ai aj]:=ad
    refine kh (rq_loadS tf89 u an u) ?_
    obtain⟨bp,ao,ap⟩:=ob Y
    refine kc co101 (fun _ _ aq D=>(ok_spec_l6Ok F) aq.enter0 ak (al.mono D) (am.mono D) ao) (kv (rv_not u) (km u (bt ap (fun d o=>?_) (fun d o=>?_))))
    ·refine kn d (kn d (kn d ?_))
     iterate 12 refine ku ?_
     refine kn d (kv (p_t u d u) (wq_nil ?_))
     rintro bq ⟨ar,au,aw⟩
     cases oi o
     exact qd ⟨ar,u,au,aw⟩
    refine kg d (rv_move u) (kg d (rv_gtr u u) (kg d (rv_move u) (bt o (fun c q=>?_) (fun c q=>?_))))
    ·refine kg c (rv_move u) (kg c (rv_move u) ?_)
     obtain⟨ax,ay,az⟩:=ob q
     refine wq_indexAddr (t:=tGDoc) (wg u u c) u underlying38 tf89 u u (i.mono f) ay fun aA aB br aC aD=>?_
     obtain⟨aE,aF,aG,aH,aI,aJ,rfl,bs,bu,bv⟩:=aC
     have aK:AtK _ aA aB [V6 ax.Id,V3 aE aF aG,V3 aH aI aJ]:=aD
     refine kg c (rv_fieldAddr ff89_0 u) (kgh c (rq_load1 tf3 u (aK 0 _ u)) (kg c (rv_move u) (kg c (rv_move u) (kg c (rv_sub u u) ?_))))
     obtain⟨aL,aM,aN⟩:=ob az
     refine wq_indexAddr (t:=tGDoc) (wg u u c) u underlying38 tf89 u u (i.mono f) aM fun aO aP bx aQ aR=>?_
     obtain⟨aS,aT,aU,aV,aW,aX,rfl,bz,bA,bB⟩:=aQ
     have aY:AtK _ aO aP [V6 aL.Id,V3 aS aT aU,V3 aV aW aX]:=aR
     refine kg c (rv_fieldAddr ff89_0 u) (kgh c (rq_load1 tf3 u (aY 0 _ u)) (kg c (rv_leq u u) (kg d (rv_pick_t u c u) (kv (rv_pick_f u d u) (wq_nil ?_)))))
     rintro bC ⟨aZ,ba,bb⟩
     cases oi aN
     exact qd ⟨aZ,u,ba,bb⟩
    iterate 12 refine kn c ?_
    refine kg d (p_f u c u) (kv (rv_pick_f u d u) (wq_nil ?_))
    rintro bD ⟨bc,bd,be⟩
    cases oi q
    exact qd ⟨bc,u,bd,be⟩
   rintro _ bE ⟨G,rfl,H,bf⟩
   refine qe_seq (wcc V u (fun bg s=>?_) (fun bg s=>?_))
   ·refine sr (lv (r_f u) (nq (wc_ret (qe_block_ret (qe_then_ret (qe_then_ret ?_))))))
    cases oi s
    cases y _ u
    refine qe_block_ret (qe_then_ret ?_)
    cases oi x
    refine qe_then_ret ?_
    cases oi k
    exact ey results63 ⟨G,u,H⟩
   refine wc_skip (qe_block (qe_seq (wc_region (mv u (lv (rv_add u u) (av u (wl_nil ?_)))))))
   cases oi s
   exact qd ⟨_,u,G,u,H,(f.trans bf),(w64_rng _)⟩
  refine wc_exit (qe_then_exit (qe_then_exit ?_))
  cases oi m
  cases y _ u
  refine qe_block_eq ?_
  cases oi x
  exact qd ⟨_,B,u,u,C,f⟩
 rintro _ bF ⟨s8,K9,rfl,rfl,bi,bj⟩
 have k:=elim_l k
 refine qr (mv u (lv (rv_len underlying38 u (i.mono bj)) (lv (rv_leq u u) (av u (nq (wc_ret ?_))))))
 cases oi k
 exact ey results63 ⟨K9,u,bi⟩

theorem ok_spec_l1Words {q0:Str}{r:(List GWord)}(hS:SH w K [] w K [])(bY:q0.length≤maxLen)(hm:M.spec_l1Words F q0=some r):
  Calls prog 167 #[sv q0] w fun e w'=>∃a_1 n_2 c_3 K',e= .returned (V3 a_1 n_2 c_3)∧SH w K [] w' K' [tail (V3 a_1 n_2 c_3) 189 4]∧SliceAt tGWord K' a_1 n_2 c_3 r:=by
 rw [M.spec_l1Words] at hm
 refine ci func167 u ntmps167 (sr (lv (r_n u) (nr (b0 tGWord underlying186 tf189 hS fun a2 w3 W ca aB aC=>(av u (nsr (lv (r_0 u) (nq ?_))))))))
 obtain⟨o8,h9,aF⟩:=ob hm
 refine wc_cutg (fun E' w'=>∃B C D G,E'=[(3,V3 B C D)]∧SH w K [] w' G [tail (V3 B C D) 189 4]∧KLe W G∧SliceAt tGWord G B C D o8) ?_ ?_
 ·refine wc_block ?_
  obtain⟨cb,aG,aH⟩:=ob h9
  refine qw (fun (a:(List GWord)×Int) E' w'=>∃c d f H,E'=[(0,sv q0),(3,V3 c d f),(4,V6 a.2)]∧SH w K [] w' H [tail (V3 c d f) 189 4]∧KLe W H∧SliceAt tGWord H c d f a.1∧rng64 a.2) aG ⟨a2,0,0,W,u,aC,kr,aB,d_0⟩ ?_
  rintro a _ cc cd aI aJ ⟨c,d,f,H,rfl,ap,X,I,aq⟩
  refine wc_seq (sr (mv u (mv u (lv (rv_slen underlying9 u) (lv (rv_lss u u) (nq (wcc aI u (fun aK Y=>?_) (fun aK Y=>?_))))))))
  ·refine wc_skip (qs (wc_block (sr (b0 tU8 underlying149 tf5 ap fun aL ce aa s aM aN=>(av u (nr (mv u (av u (ns ?_)))))))))
   obtain⟨k,aO,aP⟩:=ob Y
   refine wc_cutg (fun E' w'=>∃J O R l,E'=[(0,sv q0),(3,V3 c d f),(4,V6 k.1),(5,V3 J O R),(6,V6 a.2)]∧SH w K [] w' l [tail (V3 c d f) 189 4,tail (V3 J O R) 5 1]∧KLe aa l∧rng64 k.1∧SliceAt tU8 l J O R k.2) ?_ ?_
   ·refine wc_block ?_
    obtain⟨cf,aQ,aR⟩:=ob aO
    refine qw (fun (S:Int×(List UInt8)) E' w'=>∃m o q x,E'=[(0,sv q0),(3,V3 c d f),(4,V6 S.1),(5,V3 m o q),(6,V6 a.2)]∧SH w K [] w' x [tail (V3 c d f) 189 4,tail (V3 m o q) 5 1]∧KLe aa x∧rng64 S.1∧SliceAt tU8 x m o q S.2) aQ ⟨aL,0,0,aa,u,aN.f1,kr,aq,aM⟩ ?_
    rintro S _ cg ch aS aT ⟨m,o,q,x,rfl,ab,ar,aU,au⟩
    refine wc_seq (wc_seq ?_)
    obtain⟨aV,aW,aX⟩:=ob aS
    refine wc_cutg (IV w K [] x [(0,sv q0),(3,V3 c d f),(4,V6 S.1),(5,V3 m o q),(6,V6 a.2),(26,.bool aV)] [tail (V3 c d f) 189 4,tail (V3 m o q) 5 1]) ?_ ?_
    ·refine wc_region (mv u (mv u (lv (rv_slen underlying9 u) (lv (rv_lss u u) (mv u (bt aW (fun i ac=>?_) (fun i ac=>?_)))))))
     ·refine lg i (rv_move u) (lg i (rv_move u) ?_)
      obtain⟨aY,aZ,ba⟩:=ob ac
      refine lg i (rv_sidx underlying9 u u aZ) ?_
      obtain⟨cj,bb,bc⟩:=ob ba
      refine wl_call (wg u u i) u (rt_call (vs:=[iv8 aY]) co83 u) (ok_spec_l1Fold F ab.enter0 bb) ?_
      rintro ck cl ⟨bd,rfl,aw⟩
      refine⟨_,u,?_⟩
      have be:=(ab.c0 aw).t2
      refine lg i (rv_bne (b:=(0:UInt8)) u u) (lv (rv_pick_t u i u) (wl_nil ?_))
      cases oi bc
      exact qd ⟨bd,u,be,aw.le⟩
     iterate 5 refine lu i ?_
     refine lv (p_f u i u) (wl_nil ?_)
     cases oi ac
     exact qd ⟨x,u,ab,kr⟩
    rintro _ cm ⟨bf,rfl,ad,V⟩
    refine qe_seq (wcc aX u (fun bg ae=>?_) (fun bg ae=>?_))
    ·refine wc_skip (qe_seq (wc_block (sr (mv u (mv u (mv u ?_))))))
     obtain⟨cn,bh,bi⟩:=ob ae
     refine lv (rv_sidx underlying9 u u bh) ?_
     obtain⟨af,bj,bk⟩:=ob bi
     refine lk co83 (ok_spec_l1Fold F ad.enter0 bj) ?_
     rintro cp cq ⟨cr,rfl,ag⟩
     have bl:=(ad.c0 ag).t2
     refine lb tU8 (iv8 af) [iv8 af] af underlying149 tf5 u bl fun ct cu cv ax bm bn=>?_
     obtain⟨cw,bo,bp⟩:=ob bk
     refine lp underlying149 tf5 (au.mono ((V.trans ag.le).trans ax)) bm bo bn.f2 fun bq br bs cx bu bv bx bz=>(av u (nq (wc_region (mv u (lv (rv_add u u) (av u (nb ?_)))))))
     cases oi bp
     exact qd ⟨_,u,bq,br,bs,bu,u,bz.f2.s,((((ar.trans V).trans ag.le).trans ax).trans bv),(w64_rng _),bx⟩
    refine wc_exit (qe_then_exit (qe_then_exit ?_))
    cases oi ae
    cases aT _ u
    refine qe_block_eq ?_
    cases oi aR
    exact qd ⟨m,o,q,bf,u,ad,(ar.trans V),aU,(au.mono V)⟩
   rintro _ cy ⟨J,O,R,l,rfl,ay,y,bA,ah⟩
   refine qs (sr (mv u (lv (rv_len underlying149 u ah) (lv (rv_gtr u u) (nq ?_)))))
   obtain⟨T,bB,bC⟩:=ob aP
   refine wc_cutg (fun E' w'=>∃ai aj ak U,E'=[(0,sv q0),(3,V3 c d f),(4,V6 k.1),(5,V3 ai aj ak),(6,V6 a.2)]∧SH w K [] w' U [tail (V3 c d f) 189 4]∧KLe l U∧SliceAt tU8 U ai aj ak T) ?_ ?_
   ·refine wcc bB u (fun bD al=>?_) (fun bD al=>?_)
    ·refine wc_region (mv u ?_)
     obtain⟨cz,bE,bF⟩:=ob al
     refine wl_sl_h (t:=tU8) wn u underlying149 tf5 u u ah bE fun bG bH bI bJ=>(av u (wl_nil ?_))
     cases oi bF
     exact qd ⟨bG,bH,bI,l,u,ay.s,kr,bJ⟩
    refine wc_skip ?_
    cases oi al
    exact qd ⟨J,O,R,l,u,ay.s,kr,ah⟩
   rintro _ cA ⟨ai,aj,ak,U,rfl,am,A,an⟩
   refine qr (mv u (lv (rv_len underlying149 u an) (lv (rv_gtr u u) (nq (wcc bC u (fun bK ao=>?_) (fun bK ao=>?_))))))
   ·refine wc_region (mv u (mv u (lv (rv_b2s underlying149 underlying5 underlying9 u an am) (mv u (lv (rv_len underlying186 u (I.mono ((s.trans y).trans A))) (mv u (mv u (lv (rv_build (cs:=#[sv T,V6 (a.1.length:Int),V6 a.2,V6 k.1]) sp189 tf189 u (by kernel_rfl)) (lb tGWord (.agg #[sv T,V6 (a.1.length:Int),V6 a.2,V6 k.1]) [sv T,V6 (a.1.length:Int),V6 a.2,V6 k.1] (GWord.mk T (a.1.length:Int) a.2 k.1) underlying186 tf189 ⟨u,(SliceAt.max an),(rng_nat (SliceAt.max (I.mono ((s.trans y).trans A)))),aq,bA⟩ am fun cB cC cD az bL bM=>?_)))))))))
    obtain⟨cE,bN,bO⟩:=ob ao
    refine lp underlying186 tf189 (SliceAt.mono (((s.trans y).trans A).trans az) I) bL bN bM.f1 fun bP bQ bR cF bS bT bU bV=>(av u (nb (qe_seq (wc_region (mv u (lv (rv_add u u) (av u (wl_nil ?_))))))))
    cases oi bO
    exact qd ⟨_,u,bP,bQ,bR,bS,u,bV.s,(((((X.trans s).trans y).trans A).trans az).trans bT),bU,(w64_rng _)⟩
   refine wc_skip (qe_block (qe_seq (wc_region (mv u (lv (rv_add u u) (av u (wl_nil ?_)))))))
   cases oi ao
   exact qd ⟨_,u,c,d,f,U,u,am,(((X.trans s).trans y).trans A),(I.mono ((s.trans y).trans A)),(w64_rng _)⟩
  refine wc_exit (qe_then_exit (qe_then_exit ?_))
  cases oi Y
  cases aJ _ u
  refine qe_block_eq ?_
  cases oi aH
  exact qd ⟨c,d,f,H,u,ap,X,I⟩
 rintro _ cG ⟨B,C,D,G,rfl,bW,cH,bX⟩
 refine qr (mv u (av u (nq (wc_ret ?_))))
 cases oi aF
 exact ey results167 ⟨B,C,D,G,u,bW,bX⟩

theorem ok_spec_l2Plain {q0:GConf}{q1:Str}{r:(List GTerm)}(hS:SH w K [] w K [])(ac:SliceAt tStr K A a b q0.Stops)(bQ:SliceAt tGSyn K B c d q0.Syns)(ak:q1.length≤maxLen)(hm:M.spec_l2Plain F q0 q1=some r):
  Calls prog 129 #[.agg #[V3 A a b,V3 B c d],sv q1] w fun e w'=>∃a_1 n_2 c_3 K',e= .returned (V3 a_1 n_2 c_3)∧SH w K [] w' K' [tail (V3 a_1 n_2 c_3) 136 2]∧SliceAt tGTerm K' a_1 n_2 c_3 r:=by
 rw [M.spec_l2Plain] at hm
 refine ci func129 u ntmps129 (sr (bx u hS fun s bR al=>?_))
 have am:SH _ _ _ _ _ [obj s [V3 A a b,V3 B c d] 36]:=al
 refine lv (r_n u) (nr (b0 tGTerm underlying133 tf136 am fun an bS bT ad ao ae=>(av u (nr (mv u ?_)))))
 obtain⟨bU,ap,aq⟩:=ob hm
 refine lk co167 (ok_spec_l1Words F ae.enter0 ak ap) ?_
 rintro bV bW ⟨af,ag,ah,V,rfl,O,R⟩
 have ar:=(ae.c0 O).t3
 refine av u (nsr (lv (r_0 u) (nq ?_)))
 obtain⟨au,aw,ax⟩:=ob aq
 refine wc_cutg (fun E' w'=>∃x y C D,E'=[(5,V3 x y C)]∧SH w K [] w' D [tail (V3 x y C) 136 2]∧KLe V D∧SliceAt tGTerm D x y C au) ?_ ?_
 ·refine wc_block ?_
  obtain⟨bX,ay,az⟩:=ob aw
  have aA:=ar.f1.f2.sb (sk (sk (sd sz)))
  refine qw (fun (G:(List GTerm)×Int) E' w'=>∃l m o H,E'=[(2,pt s),(5,V3 l m o),(6,V3 af ag ah),(7,V6 G.2)]∧SH w K [] w' H [obj s [V3 A a b,V3 B c d] 36,tail (V3 l m o) 136 2]∧KLe V H∧SliceAt tGTerm H l m o G.1∧rng64 G.2) ay ⟨an,0,0,V,u,aA,kr,(ao.mono O.le),d_0⟩ ?_
  rintro G _ bY bZ aB aC ⟨l,m,o,H,rfl,S,f,W,ca⟩
  refine wc_seq (sr (mv u (mv u (lv (rv_len underlying186 u (R.mono f)) (lv (rv_lss u u) (nq (wcc aB u (fun aD X=>?_) (fun aD X=>?_))))))))
  ·refine wc_skip (qs (wc_block (sr (mv u (mv u ?_)))))
   obtain⟨T,aE,aF⟩:=ob X
   refine li underlying186 tf189 (R.mono f) aE fun aG aH cb aI aJ=>?_
   obtain⟨rfl,aK,cc,cd,ce⟩:=aI
   have aL:AtK _ aG aH [sv T.Text,V6 T.At,V6 T.From,V6 T.To]:=aJ
   refine fa ff189_0 u (lv (rv_load1 tf9 u S (aL 0 _ u)) ?_)
   obtain⟨I,aM,aN⟩:=ob aF
   refine lk co100 (ok_spec_l2Stem F S.enter0 aK aM) ?_
   rintro cf cg ⟨aO,rfl,i,ai⟩
   have aP:=(S.c0 i).t2
   refine av u (ns ?_)
   obtain⟨aQ,aR,aS⟩:=ob aN
   refine wc_cutg (IV w K [] aO [(2,pt s),(5,V3 l m o),(6,V3 af ag ah),(7,V6 G.2),(8,sv I),(39,.bool aQ)] [obj s [V3 A a b,V3 B c d] 36,tail (V3 l m o) 136 2]) ?_ ?_
   ·refine wc_quiet mixed (by kernel_rfl) aP (kv (rv_fieldAddr ff36_0 u) (kh (rq_loadm1 tf22 u m0 u) (km u (km u ?_))))
    obtain⟨U,aT,aU⟩:=ob aR
    refine ki underlying186 tf189 (R.mono (f.trans i.le)) aT fun aV aW ch aX aY=>?_
    obtain⟨rfl,aZ,cj,ck,cl⟩:=aX
    have ba:AtK _ aV aW [sv U.Text,V6 U.At,V6 U.From,V6 U.To]:=aY
    refine kv (rv_fieldAddr ff189_0 u) (kh (rq_load1 tf9 u (ba 0 _ u)) ?_)
    obtain⟨cm,bb,bc⟩:=ob aU
    refine kc co48 (fun _ _ bd be=>(ok_spec_l2Has F) bd.enter0 (SliceAt.mono ((((ad.trans O.le).trans f).trans i.le).trans be) ac) aZ bb) (kv (rv_not u) (km u (bt bc (fun k Y=>?_) (fun k Y=>?_))))
    ·refine kg k (rv_fieldAddr ff36_0 u) (kgh k (rq_loadm1 tf22 u m0 u) (kg k (rv_move u) ?_))
     obtain⟨cn,bf,bg⟩:=ob Y
     refine kcg k co48 (fun _ _ bh bi=>(ok_spec_l2Has F) bh.enter0 (SliceAt.mono ((((ad.trans O.le).trans f).trans i.le).trans bi) ac) ai bf) (kg k (rv_not u) (kv (rv_pick_t u k u) (wq_nil ?_)))
     rintro cp ⟨bj,bk,bl⟩
     cases oi bg
     exact qd ⟨bj,u,bk,bl⟩
    iterate 5 refine kn k ?_
    refine kv (p_f u k u) (wq_nil ?_)
    rintro cq ⟨bm,bn,bo⟩
    cases oi Y
    exact qd ⟨bm,u,bn,bo⟩
   rintro _ cr ⟨bp,rfl,aa,J⟩
   refine qe_seq (wcc aS u (fun bq ab=>?_) (fun bq ab=>?_))
   ·refine wc_region (mv u (mv u (mv u (mv u ?_))))
    obtain⟨q,br,bs⟩:=ob ab
    refine li underlying186 tf189 (R.mono ((f.trans i.le).trans J)) br fun bu bv ct bz bA=>?_
    obtain⟨rfl,cu,bB,cv,cw⟩:=bz
    have bC:AtK _ bu bv [sv q.Text,V6 q.At,V6 q.From,V6 q.To]:=bA
    refine fa ff189_1 u (lv (rv_load1 tf3 u aa (bC 1 _ u)) (lv (rv_build (cs:=#[sv I,V6 q.At]) sp136 tf136 u (by kernel_rfl)) (lb tGTerm (.agg #[sv I,V6 q.At]) [sv I,V6 q.At] (GTerm.mk I q.At) underlying133 tf136 ⟨u,ai,bB⟩ aa fun cx cy cz aj bD bE=>?_)))
    obtain⟨cA,bF,bG⟩:=ob bs
    refine lp underlying133 tf136 (W.mono ((i.le.trans J).trans aj)) bD bF bE.f2 fun bH bI bJ cB bK bL bM bN=>(av u (nb (qe_seq (wc_region (mv u (lv (rv_add u u) (av u (wl_nil ?_))))))))
    cases oi bG
    exact qd ⟨_,u,bH,bI,bJ,bK,u,bN.f2.s,((((f.trans i.le).trans J).trans aj).trans bL),bM,(w64_rng _)⟩
   refine wc_skip (qe_block (qe_seq (wc_region (mv u (lv (rv_add u u) (av u (wl_nil ?_)))))))
   cases oi ab
   exact qd ⟨_,u,l,m,o,bp,u,aa,((f.trans i.le).trans J),(W.mono (i.le.trans J)),(w64_rng _)⟩
  refine wc_exit (qe_then_exit (qe_then_exit ?_))
  cases oi X
  cases aC _ u
  refine qe_block_eq ?_
  cases oi az
  exact qd ⟨l,m,o,H,u,S.s,f,W⟩
 rintro _ cC ⟨x,y,C,D,rfl,bO,cD,bP⟩
 refine qr (mv u (av u (nq (wc_ret ?_))))
 cases oi ax
 exact ey results129 ⟨x,y,C,D,u,bO,bP⟩

theorem ok_spec_l2Begins {q0:List GTerm}{q1:List Str}{r:Bool}(hS:SH w K [] w K [])(l:SliceAt tGTerm K A a b q0)(C:SliceAt tStr K B c d q1)(hm:M.spec_l2Begins F q0 q1=some r):
  Calls prog 168 #[V3 A a b,V3 B c d] w (R_b w K r):=by
 rw [M.spec_l2Begins] at hm
 refine ci func168 u ntmps168 (sr (lv (r_f u) (nsr (lv (r_0 u) (nq ?_)))))
 obtain⟨U,V,m⟩:=ob hm
 refine wc_cutg (IE U w K [] K [] []) ?_ ?_
 ·refine wc_block ?_
  obtain⟨aW,W,D⟩:=ob V
  refine qw (fun (o:Int)=>IW w K [] K [(0,V3 A a b),(1,V3 B c d),(5,V6 o)] [] (rng64 o)) W ⟨K,u,hS,kr,d_0⟩ ?_
  rintro o _ aX aY X G ⟨H,rfl,I,k,aZ⟩
  refine wc_seq (sr (mv u (mv u (lv (rv_len underlying22 u (C.mono k)) (lv (rv_lss u u) (nq (wcc X u (fun Y q=>?_) (fun Y q=>?_))))))))
  ·refine wc_skip (qs (wc_block (wc_seq ?_)))
   obtain⟨aa,ab,ac⟩:=ob q
   refine wc_cutg (IV w K [] H [(0,V3 A a b),(1,V3 B c d),(5,V6 o),(41,.bool aa)] []) ?_ ?_
   ·refine wc_quiet mixed (by kernel_rfl) I (km u (km u (kv (rv_len underlying133 u (l.mono k)) (kv (rv_geq u u) (km u (bt ab (fun i s=>?_) (fun i s=>?_)))))))
    ·iterate 10 refine kn i ?_
     refine kv (p_t u i u) (km u ?_)
     iterate 12 refine qv u u u u ?_
     refine kv (p_t u u u) (wq_nil ?_)
     rintro ba ⟨ad,ae,af⟩
     cases oi s
     exact qd ⟨ad,u,ae,af⟩
    refine kg i (rv_move u) (kg i (rv_move u) ?_)
    obtain⟨J,ag,ah⟩:=ob s
    refine wq_indexAddr (t:=tGTerm) (wg u u i) u underlying133 tf136 u u (l.mono k) ag fun ai aj bb ak al=>?_
    obtain⟨rfl,bc,bd⟩:=ak
    have am:AtK _ ai aj [sv J.Text,V6 J.At]:=al
    refine kg i (rv_fieldAddr ff136_0 u) (kgh i (rq_load1 tf9 u (am 0 _ u)) (kg i (rv_move u) (kg i (rv_move u) ?_)))
    obtain⟨an,ao,ap⟩:=ob ah
    refine wq_indexAddr (t:=tStr) (wg u u i) u underlying22 tf9 u u (C.mono k) ao fun aq ar be au aw=>?_
    obtain⟨rfl,bf⟩:=au
    have ax:AtK _ aq ar [sv an]:=aw
    refine kgh i (rq_load1 tf9 u (ax 0 _ u)) (kg i (rv_sneq u u) (kv (rv_pick_f u i u) (km u (bt ap (fun f x=>?_) (fun f x=>?_)))))
    ·iterate 12 refine kn f ?_
     refine kv (p_t u f u) (wq_nil ?_)
     rintro bg ⟨ay,az,aA⟩
     cases oi x
     exact qd ⟨ay,u,az,aA⟩
    refine kg f (rv_move u) (kg f (rv_move u) ?_)
    obtain⟨O,aB,aC⟩:=ob x
    refine wq_indexAddr (t:=tGTerm) (wg u u f) u underlying133 tf136 u u (l.mono k) aB fun aD aE bh aF aG=>?_
    obtain⟨rfl,bi,bj⟩:=aF
    have aH:AtK _ aD aE [sv O.Text,V6 O.At]:=aG
    refine kg f (rv_fieldAddr ff136_1 u) (kgh f (rq_load1 tf3 u (aH 1 _ u)) (kg f (rv_move u) ?_))
    obtain⟨R,aI,aJ⟩:=ob aC
    refine wq_indexAddr (t:=tGTerm) (wg u u f) u underlying133 tf136 u u (l.mono k) aI fun aK aL bk aM aN=>?_
    obtain⟨rfl,bl,bm⟩:=aM
    have aO:AtK _ aK aL [sv R.Text,V6 R.At]:=aN
    refine kg f (rv_fieldAddr ff136_1 u) (kgh f (rq_load1 tf3 u (aO 1 _ u)) (kg f (rv_move u) (kg f (rv_add u u) (kg f (rv_neq u u) (kv (rv_pick_f u f u) (wq_nil ?_))))))
    rintro bn ⟨aP,aQ,aR⟩
    cases oi aJ
    exact qd ⟨aP,u,aQ,aR⟩
   rintro _ bo ⟨S,rfl,T,aS⟩
   refine qe_seq (wcc ac u (fun aT y=>?_) (fun aT y=>?_))
   ·refine sr (lv (r_f u) (nq (wc_ret (qe_block_ret (qe_then_ret (qe_then_ret ?_))))))
    cases oi y
    cases G _ u
    refine qe_block_ret (qe_then_ret ?_)
    cases oi D
    refine qe_then_ret ?_
    cases oi m
    exact ey results168 ⟨S,u,T⟩
   refine wc_skip (qe_block (qe_seq (wc_region (mv u (lv (rv_add u u) (av u (wl_nil ?_)))))))
   cases oi y
   exact qd ⟨_,u,S,u,T,(k.trans aS),(w64_rng _)⟩
  refine wc_exit (qe_then_exit (qe_then_exit ?_))
  cases oi q
  cases G _ u
  refine qe_block_eq ?_
  cases oi D
  exact qe_mid' ⟨_,H,u,u,I,k⟩ trivial
 rintro _ bp ⟨bq,aU,rfl,rfl,aV,br⟩
 have m:=elim_l m
 refine qr (lv (r_t u) (nq (wc_ret ?_)))
 cases oi m
 exact ey results168 ⟨aU,u,aV⟩

theorem ok_spec_l2Syn {q0:GConf}{q1:List GTerm}{r:Int}(hS:SH w K [] w K [])(bn:SliceAt tStr K A a b q0.Stops)(s:SliceAt tGSyn K B c d q0.Syns)(V:SliceAt tGTerm K C f i q1)(hm:M.spec_l2Syn F q0 q1=some r):
  Calls prog 130 #[.agg #[V3 A a b,V3 B c d],V3 C f i] w (R_i w K r):=by
 rw [M.spec_l2Syn] at hm
 refine ci func130 u ntmps130 (sr (bx u hS fun q bo W=>?_))
 have X:SH _ _ _ _ _ [obj q [V3 A a b,V3 B c d] 36]:=W
 refine lv (r_0 u) (nr (lv (rv_assign (v:=V6 (-1)) u) (nsr (lv (r_0 u) (nq ?_)))))
 obtain⟨I,Y,aa⟩:=ob hm
 refine wc_cutg (IW w K [] K [(5,V6 I)] [] (rng64 I)) ?_ ?_
 ·refine wc_block ?_
  obtain⟨bp,ab,ac⟩:=ob Y
  refine qw (fun (o:Int×Int)=>IW w K [] K [(1,V3 C f i),(2,pt q),(5,V6 o.1),(6,V6 o.2)] [obj q [V3 A a b,V3 B c d] 36] (rng64 o.1∧rng64 o.2)) ab ⟨K,u,X,kr,(by decide :rng64 (-1)),d_0⟩ ?_
  rintro o _ bq br ad ae ⟨J,rfl,x,m,O,af⟩
  refine wc_seq (sr (mv u (fl ff36_1 u tf34 m0 x u (lv (rv_len underlying34 u (s.mono m)) (lv (rv_lss u u) (nq (wcc ad u (fun ag y=>?_) (fun ag y=>?_))))))))
  ·refine wc_skip (qs (wc_block (wc_seq ?_)))
   obtain⟨ah,ai,aj⟩:=ob y
   refine wc_cutg (IV w K [] J [(1,V3 C f i),(2,pt q),(5,V6 o.1),(6,V6 o.2),(42,.bool ah)] [obj q [V3 A a b,V3 B c d] 36]) ?_ ?_
   ·refine wc_quiet mixed (by kernel_rfl) x (km u (kv (rv_fieldAddr ff36_1 u) (kh (rq_loadm1 tf34 u m0 u) (km u ?_))))
    obtain⟨ak,al,am⟩:=ob ai
    refine ki underlying34 tf120 (s.mono m) al fun an ao bs ap aq=>?_
    obtain⟨ar,au,aw,rfl,ax,bu⟩:=ap
    have ay:AtK _ an ao [V3 ar au aw,sv ak.To]:=aq
    refine kv (rv_fieldAddr ff120_0 u) (kh (rq_load1 tf22 u (ay 0 _ u)) ?_)
    obtain⟨bv,az,aA⟩:=ob am
    refine kc co168 (fun _ _ aB R=>(ok_spec_l2Begins F) aB.enter0 (V.mono (m.trans R)) (ax.mono R) az) (km u (bt aA (fun l D=>?_) (fun l D=>?_)))
    ·refine kg l (rv_move u) (kg l (rv_lss u u) (kg l (rv_move u) (bt D (fun k G=>?_) (fun k G=>?_))))
     ·iterate 15 refine kn k ?_
      refine kg l (p_t u k u) (kv (rv_pick_t u l u) (wq_nil ?_))
      rintro bz ⟨aC,aD,aE⟩
      cases oi G
      exact qd ⟨aC,u,aD,aE⟩
     refine kg k (rv_fieldAddr ff36_1 u) (kgh k (rq_loadm1 tf34 u m0 u) (kg k (rv_move u) ?_))
     obtain⟨aF,aG,aH⟩:=ob G
     refine wq_indexAddr (t:=tGSyn) (wg u u k) u underlying34 tf120 u u (s.mono m) aG fun aI aJ bA aK aL=>?_
     obtain⟨aM,aN,aO,rfl,aP,bB⟩:=aK
     have aQ:AtK _ aI aJ [V3 aM aN aO,sv aF.To]:=aL
     refine kg k (rv_fieldAddr ff120_0 u) (kgh k (rq_load1 tf22 u (aQ 0 _ u)) (kg k (rv_len underlying22 u aP) (kg k (rv_fieldAddr ff36_1 u) (kgh k (rq_loadm1 tf34 u m0 u) (kg k (rv_move u) ?_)))))
     obtain⟨aR,aS,aT⟩:=ob aH
     refine wq_indexAddr (t:=tGSyn) (wg u u k) u underlying34 tf120 u u (s.mono m) aS fun aU aV bC aW aX=>?_
     obtain⟨aY,aZ,ba,rfl,bb,bD⟩:=aW
     have bc:AtK _ aU aV [V3 aY aZ ba,sv aR.To]:=aX
     refine kg k (rv_fieldAddr ff120_0 u) (kgh k (rq_load1 tf22 u (bc 0 _ u)) (kg k (rv_len underlying22 u bb) (kg k (rv_gtr u u) (kg l (rv_pick_f u k u) (kv (rv_pick_t u l u) (wq_nil ?_))))))
     rintro bE ⟨bd,be,bf⟩
     cases oi aT
     exact qd ⟨bd,u,be,bf⟩
    refine kn l (kn l (kn l ?_))
    iterate 15 refine ku ?_
    refine kn l (kv (p_f u l u) (wq_nil ?_))
    rintro bF ⟨bg,bh,bi⟩
    cases oi D
    exact qd ⟨bg,u,bh,bi⟩
   rintro _ bG ⟨S,rfl,T,U⟩
   refine qe_seq (wcc aj u (fun bj H=>?_) (fun bj H=>?_))
   ·refine wc_region (mv u (av u (nb (qe_seq (wc_region (mv u (lv (rv_add u u) (av u (wl_nil ?_)))))))))
    cases oi H
    exact qd ⟨_,u,S,u,T,(m.trans U),af,(w64_rng _)⟩
   refine wc_skip (qe_block (qe_seq (wc_region (mv u (lv (rv_add u u) (av u (wl_nil ?_)))))))
   cases oi H
   exact qd ⟨_,u,S,u,T,(m.trans U),O,(w64_rng _)⟩
  refine wc_exit (qe_then_exit (qe_then_exit ?_))
  cases oi y
  cases ae _ u
  refine qe_block_eq ?_
  cases oi ac
  exact qd ⟨J,u,x.s,m,O⟩
 rintro _ bH ⟨bk,rfl,bl,bI,bm⟩
 refine qr (mv u (av u (nq (wc_ret ?_))))
 cases oi aa
 exact ey results130 ⟨bk,u,bl,bm⟩

theorem ok_spec_l2Terms {q0:GConf}{q1:Str}{r:(List GTerm)}(hS:SH w K [] w K [])(ak:SliceAt tStr K A a b q0.Stops)(S:SliceAt tGSyn K B c d q0.Syns)(am:q1.length≤maxLen)(hm:M.spec_l2Terms F q0 q1=some r):
  Calls prog 84 #[.agg #[V3 A a b,V3 B c d],sv q1] w fun e w'=>∃a_1 n_2 c_3 K',e= .returned (V3 a_1 n_2 c_3)∧SH w K [] w' K' [tail (V3 a_1 n_2 c_3) 136 2]∧SliceAt tGTerm K' a_1 n_2 c_3 r:=by
 rw [M.spec_l2Terms] at hm
 refine ci func84 u ntmps84 (sr (bx u hS fun T cn an=>?_))
 have ao:SH _ _ _ _ _ [obj T [V3 A a b,V3 B c d] 36]:=an
 refine lv (r_n u) (nr (b0 tGTerm underlying133 tf136 ao fun ap cp cq l aq W=>(av u (nr (lv (rv_loadmS (ds:=[V3 A a b,V3 B c d]) tf36 u m1 W u u) (mv u ?_))))))
 obtain⟨cr,ar,au⟩:=ob hm
 refine lk co129 (ok_spec_l2Plain F W.enter0 (ak.mono l) (S.mono l) am ar) ?_
 rintro ct cu ⟨aw,ax,ay,X,rfl,m,az⟩
 have aA:=(W.c0 m).t3
 refine av u (ns ?_)
 obtain⟨aB,aC,aD⟩:=ob au
 refine wc_cutg (fun E' w'=>∃y C D G,E'=[(5,V3 y C D)]∧SH w K [] w' G [tail (V3 y C D) 136 2]∧KLe X G∧SliceAt tGTerm G y C D aB) ?_ ?_
 ·refine wc_block ?_
  obtain⟨cv,aE,aF⟩:=ob aC
  have aG:=aA.f1.f2.sb (sk (sk (sd sz)))
  refine qw (fun (Y:(List GTerm)×(List GTerm)) E' w'=>∃H I J aa ab ac o,E'=[(2,pt T),(5,V3 H I J),(6,V3 aa ab ac)]∧SH w K [] w' o [obj T [V3 A a b,V3 B c d] 36,tail (V3 H I J) 136 2]∧KLe X o∧SliceAt tGTerm o H I J Y.1∧SliceAt tGTerm o aa ab ac Y.2) aE ⟨ap,0,0,aw,ax,ay,X,u,aG,kr,(aq.mono m.le),az⟩ ?_
  rintro Y _ cw cx aH aI ⟨H,I,J,aa,ab,ac,o,rfl,U,i,ad,q⟩
  refine wc_seq (sr (mv u (lv (rv_len underlying133 u q) (lv (rv_gtr u u) (nq (wcc aH u (fun aJ ae=>?_) (fun aJ ae=>?_)))))))
  ·refine wc_skip (qe_seq (wc_block (sr (lv (rv_loadmS (ds:=[V3 A a b,V3 B c d]) tf36 u m0 U u u) (mv u ?_)))))
   obtain⟨cy,aK,aL⟩:=ob ae
   refine lk co130 (ok_spec_l2Syn F U.enter0 (ak.mono ((l.trans m.le).trans i)) (S.mono ((l.trans m.le).trans i)) q aK) ?_
   rintro cz cA ⟨aM,rfl,f,cB⟩
   have af:=(U.c0 f).t2
   refine av u (nsr (mv u (lv (rv_lss u u) (nq (wcc aL u (fun aN ag=>?_) (fun aN ag=>?_))))))
   ·refine sr (mv u (mv u ?_))
    obtain⟨k,aO,aP⟩:=ob ag
    refine li underlying133 tf136 (q.mono f.le) aO fun aQ aR cC aS aT=>?_
    obtain⟨rfl,aU,aV⟩:=aS
    have aW:AtK _ aQ aR [sv k.Text,V6 k.At]:=aT
    refine lv (rv_loadS tf136 u af aW u) (lb tGTerm (.agg #[sv k.Text,V6 k.At]) [sv k.Text,V6 k.At] k underlying133 tf136 ⟨u,aU,aV⟩ af fun cD cE cF ah aX aY=>?_)
    obtain⟨cG,aZ,ba⟩:=ob aP
    refine lp underlying133 tf136 (ad.mono (f.le.trans ah)) aX aZ aY.f2 fun bb bc bd cH be al bf bg=>(av u (nr (mv u ?_)))
    obtain⟨cI,bh,bi⟩:=ob ba
    refine wl_sl_l (t:=tGTerm) wn u underlying133 tf136 u u (q.mono ((f.le.trans ah).trans al)) bh fun bj bk bl bm=>(av u (nq (wc_exit (qe_then_exit (qe_block_eq ?_)))))
    cases oi bi
    exact qd ⟨_,u,bb,bc,bd,bj,bk,bl,be,u,bg.f2.s,(((i.trans f.le).trans ah).trans al),bf,bm⟩
   refine wc_skip (qs ?_)
   have ai:=af.drew
   refine wh1 (fun w'=>Holds aM w'∧HasObj T [V3 A a b,V3 B c d] w') (fun w'=>True) 15 [] mixed ⟨ai.hasK kr,ai.hasObj m0⟩ (fun _=>trivial) (gt (rv_move u) (gt (rv_fieldAddr ff36_1 u) (gh (fun _ h=>rh_loadm1 tf34 u u h.2) (gt (rv_move u) ?_))))
   obtain⟨O,bn,bo⟩:=ob ag
   refine gi underlying34 tf120 (SliceAt.mono (((l.trans m.le).trans i).trans f.le) S) bn fun bp bq cJ br bs=>?_
   obtain⟨bu,bv,bz,rfl,cK,bA⟩:=br
   have bB:AtK _ bp bq [V3 bu bv bz,sv O.To]:=bs
   refine gt (rv_fieldAddr ff120_1 u) (gh (fun _ h=>rh_load1 tf9 u (bB 1 _ u) h.1) (gt (rv_move u) ?_))
   obtain⟨s,bC,bD⟩:=ob bo
   refine gi underlying133 tf136 (q.mono f.le) bC fun bE bF cL bG bH=>?_
   obtain⟨rfl,cM,bI⟩:=bG
   have bJ:AtK _ bE bF [sv s.Text,V6 s.At]:=bH
   refine gt (rv_fieldAddr ff136_1 u) (gh (fun _ h=>rh_load1 tf3 u (bJ 1 _ u) h.1) (gt (rv_build (cs:=#[sv O.To,V6 s.At]) sp136 tf136 u (by kernel_rfl)) (gn (lb tGTerm (.agg #[sv O.To,V6 s.At]) [sv O.To,V6 s.At] (GTerm.mk O.To s.At) underlying133 tf136 ⟨u,bA,bI⟩ ai fun cN cO cP x bK aj=>(wl_nil (qh ⟨aj.hasK x,aj.hasObj m1⟩ (fun _=>trivial) (gn ?_)))))))
   obtain⟨cQ,bL,bM⟩:=ob bD
   refine lp underlying133 tf136 (ad.mono (f.le.trans x)) bK bL aj.f2 fun bN bO bP cR bQ V bR R=>(wl_nil (qh ⟨R.hasK (x.trans V),R.hasObj m2⟩ (fun _=>trivial) (gt (rv_assign u) (gd' (qe_seq (wc_region (mv u (fl ff36_1 u tf34 m2 R u (mv u ?_)))))))))
   obtain⟨bS,bT,bU⟩:=ob bM
   refine li underlying34 tf120 (SliceAt.mono (((((l.trans m.le).trans i).trans f.le).trans x).trans V) S) bT fun bV bW cS bX bY=>?_
   obtain⟨bZ,ca,cb,rfl,cc,cT⟩:=bX
   have cd:AtK _ bV bW [V3 bZ ca cb,sv bS.To]:=bY
   refine fa ff120_0 u (lv (rv_load1 tf22 u R (cd 0 _ u)) (lv (rv_len underlying22 u cc) ?_))
   obtain⟨cU,ce,cf⟩:=ob bU
   refine wl_sl_l (t:=tGTerm) wn u underlying133 tf136 u u (q.mono ((f.le.trans x).trans V)) ce fun cg ch cj ck=>(av u (nb ?_))
   cases oi cf
   exact qd ⟨_,u,bN,bO,bP,cg,ch,cj,bQ,u,R.f2.s,(((i.trans f.le).trans x).trans V),bR,ck⟩
  refine wc_exit (qe_then_exit (qe_then_exit ?_))
  cases oi ae
  cases aI _ u
  refine qe_block_eq ?_
  cases oi aF
  exact qd ⟨H,I,J,o,u,U.s,i,ad⟩
 rintro _ cV ⟨y,C,D,G,rfl,cl,cW,cm⟩
 refine qr (mv u (av u (nq (wc_ret ?_))))
 cases oi aD
 exact ey results84 ⟨y,C,D,G,u,cl,cm⟩

theorem ok_spec_l6Field {q0:GDoc}{q1:Str}{r:Str}(hS:SH w K [] w K [])(an:rng64 q0.Id)(l:SliceAt tGField K A a b q0.Fields)(ao:SliceAt tGAttr K B c d q0.Nums)(ap:q1.length≤maxLen)(hm:M.spec_l6Field F q0 q1=some r):
  Calls prog 149 #[.agg #[V6 q0.Id,V3 A a b,V3 B c d],sv q1] w fun e w'=>∃K',e= .returned (sv r)∧SH w K [] w' K' []∧r.length≤maxLen:=by
 rw [M.spec_l6Field] at hm
 refine ci func149 u ntmps149 (sr (bx u hS fun m aq H=>?_))
 have I:SH _ _ _ _ _ [obj m [V6 q0.Id,V3 A a b,V3 B c d] 89]:=H
 refine lv (r_s u) (nsr (lv (r_0 u) (nq ?_)))
 obtain⟨J,O,k⟩:=ob hm
 refine wc_cutg (IE J w K [] K [] []) ?_ ?_
 ·refine wc_block ?_
  obtain⟨ar,R,y⟩:=ob O
  refine qw (fun (o:Int)=>IW w K [] K [(1,sv q1),(2,pt m),(5,V6 o)] [obj m [V6 q0.Id,V3 A a b,V3 B c d] 89] (rng64 o)) R ⟨K,u,I,kr,d_0⟩ ?_
  rintro o _ au aw S C ⟨q,rfl,f,i,ax⟩
  refine wc_seq (sr (mv u (fl ff89_1 u tf86 m0 f u (lv (rv_len underlying86 u (l.mono i)) (lv (rv_lss u u) (nq (wcc S u (fun T s=>?_) (fun T s=>?_))))))))
  ·refine wc_skip (qs (wc_block (sr (fl ff89_1 u tf86 m0 f u (mv u ?_)))))
   obtain⟨D,U,V⟩:=ob s
   refine li underlying86 tf170 (l.mono i) U fun W X ay Y aa=>?_
   obtain⟨rfl,az,aA⟩:=Y
   have ab:AtK _ W X [sv D.Name,sv D.Text]:=aa
   refine fa ff170_0 u (lv (rv_load1 tf9 u f (ab 0 _ u)) (mv u (lv (rv_seql u u) (nq (wcc V u (fun ac x=>?_) (fun ac x=>?_))))))
   ·refine sr (fl ff89_1 u tf86 m0 f u (mv u ?_))
    obtain⟨G,ad,ae⟩:=ob x
    refine li underlying86 tf170 (l.mono i) ad fun af ag aB ah ai=>?_
    obtain⟨rfl,aC,aj⟩:=ah
    have ak:AtK _ af ag [sv G.Name,sv G.Text]:=ai
    refine fa ff170_1 u (lv (rv_load1 tf9 u f (ak 1 _ u)) (av u (nq (wc_ret (qe_block_ret (qe_then_ret (qe_then_ret ?_)))))))
    cases oi ae
    cases C _ u
    refine qe_block_ret (qe_then_ret ?_)
    cases oi y
    refine qe_then_ret ?_
    cases oi k
    exact ey results149 ⟨q,u,f.s,aj⟩
   refine wc_skip (qe_block (qe_seq (wc_region (mv u (lv (rv_add u u) (av u (wl_nil ?_)))))))
   cases oi x
   exact qd ⟨_,u,q,u,f,i,(w64_rng _)⟩
  refine wc_exit (qe_then_exit (qe_then_exit ?_))
  cases oi s
  cases C _ u
  refine qe_block_eq ?_
  cases oi y
  exact qe_mid' ⟨_,q,u,u,f.s,i⟩ trivial
 rintro _ aD ⟨aE,al,rfl,rfl,am,aF⟩
 have k:=elim_l k
 refine qr (lv (r_s u) (nq (wc_ret ?_)))
 cases oi k
 exact ey results149 ⟨al,u,am,(by decide :([]:Str).length≤maxLen)⟩

theorem ok_spec_l7CopyDoc {q0:GDoc}{r:GDoc}(hS:SH w K [] w K [])(G:rng64 q0.Id)(H:SliceAt tGField K A a b q0.Fields)(I:SliceAt tGAttr K B c d q0.Nums)(hm:M.spec_l7CopyDoc F q0=some r):
  Calls prog 105 #[.agg #[V6 q0.Id,V3 A a b,V3 B c d]] w fun e w'=>∃a_2 n_3 c_4 a_6 n_7 c_8 K',e= .returned (.agg #[V6 r.Id,V3 a_2 n_3 c_4,V3 a_6 n_7 c_8])∧SH w K [] w' K' [tail (V3 a_2 n_3 c_4) 170 2,tail (V3 a_6 n_7 c_8) 183 2]∧rng64 r.Id∧SliceAt tGField K' a_2 n_3 c_4 r.Fields∧SliceAt tGAttr K' a_6 n_7 c_8 r.Nums:=by
 rw [M.spec_l7CopyDoc] at hm
 refine ci func105 u ntmps105 (sr (bx u hS fun aC aX aE=>?_))
 have aF:SH _ _ _ _ _ [obj aC [V6 q0.Id,V3 A a b,V3 B c d] 89]:=aE
 refine al tf89 aF fun aG aY aH=>?_
 have aI:SH _ _ _ _ _ [obj aG [V6 0,V3 none 0 0,V3 none 0 0] 89,_]:=aH
 refine ns ?_
 obtain⟨aZ,J,aJ⟩:=ob hm
 obtain⟨ba,O,R⟩:=ob aJ
 have v:=aI.drew
 refine j_0 (fun w'=>Holds K w'∧HasObj aC [V6 q0.Id,V3 A a b,V3 B c d] w') 12 [] mixed ⟨v.hasK kr,v.hasObj m1⟩ (jv 0 u (rv_fieldAddr ff89_0 u) (jh 1 u (fun _ h=>rh_loadm1 tf3 u u h.2) (jv 3 u (rv_fieldAddr ff89_1 u) (jh 4 u (fun _ h=>rh_loadm1 tf86 u u h.2) (jv 7 u (rv_fieldAddr ff89_2 u) (jh 8 u (fun _ h=>rh_loadm1 tf87 u u h.2) (j2 2 6 u u ?_ ?_)))))))
 ·refine b0 tGField underlying86 tf170 v fun bb bc bd f aD x=>(j_o ⟨x.hasK f,x.hasObj m2⟩ (j2 5 6 u u ?_ ?_))
  ·refine lp underlying86 tf170 aD (H.mono f) J x fun S T U be bf m aK V=>(j_o ⟨V.hasK (f.trans m),V.hasObj m2⟩ (j1 6 u (b0 tGAttr underlying87 tf183 V fun bg bh bi o aL W=>(j_o ⟨W.hasK ((f.trans m).trans o),W.hasObj m3⟩ (j1 9 u (lp underlying87 tf183 aL (I.mono ((f.trans m).trans o)) O W fun X Y aa bj aM ab aN ac=>(j_o ⟨ac.hasK (((f.trans m).trans o).trans ab),ac.hasObj m3⟩ (jv 10 u (rv_build (cs:=#[V6 q0.Id,V3 S T U,V3 X Y aa]) sp89 tf89 u (by kernel_rfl)) (j1 11 u ?_)))))))))
   refine lw [V6 q0.Id,V3 S T U,V3 X Y aa] tf89 ac.f2 fun bk y=>(j_o ⟨y.hasK (((f.trans m).trans o).trans ab),y.hasObj m3⟩ (jd (qe_seq (wc_ret ?_))))
   cases oi R
   exact ez results105 tf89 y m0 ⟨S,T,U,X,Y,aa,aM,u,y.f1.f2.s,G,(aK.mono (o.trans ab)),aN⟩
  refine b0 tGAttr underlying87 tf183 x fun bl bm bn i aO ad=>(j_o ⟨ad.hasK (f.trans i),ad.hasObj m3⟩ (j1 5 u (lp underlying86 tf170 (aD.mono i) (H.mono (f.trans i)) J ad.f1 fun ae af ag bo bp q aP ah=>(j_o ⟨ah.hasK ((f.trans i).trans q),ah.hasObj m3⟩ (j1 9 u (lp underlying87 tf183 (aO.mono q) (I.mono ((f.trans i).trans q)) O ah.f1 fun ai aj ak bq aQ am aR an=>(j_o ⟨an.hasK (((f.trans i).trans q).trans am),an.hasObj m3⟩ (jv 10 u (rv_build (cs:=#[V6 q0.Id,V3 ae af ag,V3 ai aj ak]) sp89 tf89 u (by kernel_rfl)) (j1 11 u ?_)))))))))
  refine lw [V6 q0.Id,V3 ae af ag,V3 ai aj ak] tf89 an.f2 fun br C=>(j_o ⟨C.hasK (((f.trans i).trans q).trans am),C.hasObj m3⟩ (jd (qe_seq (wc_ret ?_))))
  cases oi R
  exact ez results105 tf89 C m0 ⟨ae,af,ag,ai,aj,ak,aQ,u,C.f1.f2.s,G,(aP.mono am),aR⟩
 refine b0 tGAttr underlying87 tf183 v fun bs bu bv k aS ao=>(j_o ⟨ao.hasK k,ao.hasObj m2⟩ (j1 2 u (b0 tGField underlying86 tf170 ao fun bz bA bB l aT ap=>(j_o ⟨ap.hasK (k.trans l),ap.hasObj m3⟩ (j1 5 u (lp underlying86 tf170 aT (H.mono (k.trans l)) J ap fun aq ar au bC bD s aU aw=>(j_o ⟨aw.hasK ((k.trans l).trans s),aw.hasObj m3⟩ (j1 9 u (lp underlying87 tf183 (aS.mono (l.trans s)) (I.mono ((k.trans l).trans s)) O aw.f1 fun ax ay az bE aV aA aW aB=>?_)))))))))
 refine j_o ⟨aB.hasK (((k.trans l).trans s).trans aA),aB.hasObj m3⟩ (jv 10 u (rv_build (cs:=#[V6 q0.Id,V3 aq ar au,V3 ax ay az]) sp89 tf89 u (by kernel_rfl)) (j1 11 u (lw [V6 q0.Id,V3 aq ar au,V3 ax ay az] tf89 aB.f2 fun bF D=>(j_o ⟨D.hasK (((k.trans l).trans s).trans aA),D.hasObj m3⟩ (jd (qe_seq (wc_ret ?_)))))))
 cases oi R
 exact ez results105 tf89 D m0 ⟨aq,ar,au,ax,ay,az,aV,u,D.f1.f2.s,G,(aU.mono aA),aW⟩

theorem ok_spec_l11Words {q0:List Str}{q1:Int}{r:Bool}(hS:SH w K [] w K [])(c:SliceAt tStr K A a b q0)(D:rng64 q1)(hm:M.spec_l11Words F q0 q1=some r):
  Calls prog 45 #[V3 A a b,V6 q1] w (R_b w K r):=by
 rw [M.spec_l11Words] at hm
 refine ci func45 u ntmps45 (sr (lv (r_f u) (nsr (lv (r_0 u) (nq ?_)))))
 obtain⟨G,H,d⟩:=ob hm
 refine wc_cutg (IE G w K [] K [(0,V3 A a b),(1,V6 q1)] []) ?_ ?_
 ·refine wc_block ?_
  obtain⟨ak,I,o⟩:=ob H
  refine qw (fun (k:Int)=>IW w K [] K [(0,V3 A a b),(1,V6 q1),(5,V6 k)] [] (rng64 k)) I ⟨K,u,hS,kr,d_0⟩ ?_
  rintro k _ al am J q ⟨O,rfl,f,i,an⟩
  refine wc_seq (sr (mv u (mv u (lv (rv_len underlying22 u (c.mono i)) (lv (rv_lss u u) (nq (wcc J u (fun R l=>?_) (fun R l=>?_))))))))
  ·refine wc_skip (qs (wc_block (sr (mv u (mv u ?_)))))
   obtain⟨S,T,U⟩:=ob l
   refine li underlying22 tf9 (c.mono i) T fun V W ao X Y=>?_
   obtain⟨rfl,aa⟩:=X
   have ab:AtK _ V W [sv S]:=Y
   refine lv (rv_load1 tf9 u f (ab 0 _ u)) ?_
   obtain⟨ap,ac,ad⟩:=ob U
   refine lk co44 (ok_spec_l1WordOk F f.enter0 aa ac) ?_
   rintro aq ar ⟨s,rfl,x⟩
   have y:=(f.c0 x).t0
   refine lv (rv_not u) (nq (wcc ad u (fun ae m=>?_) (fun ae m=>?_)))
   ·refine sr (lv (r_f u) (nq (wc_ret (qe_block_ret (qe_then_ret (qe_then_ret ?_))))))
    cases oi m
    cases q _ u
    refine qe_block_ret (qe_then_ret ?_)
    cases oi o
    refine qe_then_ret ?_
    cases oi d
    exact ey results45 ⟨s,u,y⟩
   refine wc_skip (qe_block (qe_seq (wc_region (mv u (lv (rv_add u u) (av u (wl_nil ?_)))))))
   cases oi m
   exact qd ⟨_,u,s,u,y,(i.trans x.le),(w64_rng _)⟩
  refine wc_exit (qe_then_exit (qe_then_exit ?_))
  cases oi l
  cases q _ u
  refine qe_block_eq ?_
  cases oi o
  exact qd ⟨_,O,u,u,f,i⟩
 rintro _ au ⟨s9,ax,rfl,rfl,B,C⟩
 have d:=elim_l d
 refine qr (mv u (lv (rv_len underlying22 u (c.mono C)) (mv u ?_)))
 obtain⟨ay,af,ag⟩:=ob d
 refine lk co46 (ok_spec_l1In F B.enter0 (c.mono C).rn (by decide :rng64 1) D af) ?_
 rintro az aA ⟨ah,rfl,ai⟩
 have aj:=(B.c0 ai).t0
 refine av u (nq (wc_ret ?_))
 cases oi ag
 exact ey results45 ⟨ah,u,aj⟩

theorem ok_impl_cloneDoc {q0:GDoc}{r:GDoc}(hS:SH w K [] w K [])(G:rng64 q0.Id)(H:SliceAt tGField K A a b q0.Fields)(I:SliceAt tGAttr K B c d q0.Nums)(hm:M.impl_cloneDoc F q0=some r):
  Calls prog 157 #[.agg #[V6 q0.Id,V3 A a b,V3 B c d]] w fun e w'=>∃a_2 n_3 c_4 a_6 n_7 c_8 K',e= .returned (.agg #[V6 r.Id,V3 a_2 n_3 c_4,V3 a_6 n_7 c_8])∧SH w K [] w' K' [tail (V3 a_2 n_3 c_4) 170 2,tail (V3 a_6 n_7 c_8) 183 2]∧rng64 r.Id∧SliceAt tGField K' a_2 n_3 c_4 r.Fields∧SliceAt tGAttr K' a_6 n_7 c_8 r.Nums:=by
 rw [M.impl_cloneDoc] at hm
 refine ci func157 u ntmps157 (sr (bx u hS fun aC aX aE=>?_))
 have aF:SH _ _ _ _ _ [obj aC [V6 q0.Id,V3 A a b,V3 B c d] 89]:=aE
 refine al tf89 aF fun aG aY aH=>?_
 have aI:SH _ _ _ _ _ [obj aG [V6 0,V3 none 0 0,V3 none 0 0] 89,_]:=aH
 refine ns ?_
 obtain⟨aZ,J,aJ⟩:=ob hm
 obtain⟨ba,O,R⟩:=ob aJ
 have v:=aI.drew
 refine j_0 (fun w'=>Holds K w'∧HasObj aC [V6 q0.Id,V3 A a b,V3 B c d] w') 12 [] mixed ⟨v.hasK kr,v.hasObj m1⟩ (jv 0 u (rv_fieldAddr ff89_0 u) (jh 1 u (fun _ h=>rh_loadm1 tf3 u u h.2) (jv 3 u (rv_fieldAddr ff89_1 u) (jh 4 u (fun _ h=>rh_loadm1 tf86 u u h.2) (jv 7 u (rv_fieldAddr ff89_2 u) (jh 8 u (fun _ h=>rh_loadm1 tf87 u u h.2) (j2 2 6 u u ?_ ?_)))))))
 ·refine b0 tGField underlying86 tf170 v fun bb bc bd f aD x=>(j_o ⟨x.hasK f,x.hasObj m2⟩ (j2 5 6 u u ?_ ?_))
  ·refine lp underlying86 tf170 aD (H.mono f) J x fun S T U be bf m aK V=>(j_o ⟨V.hasK (f.trans m),V.hasObj m2⟩ (j1 6 u (b0 tGAttr underlying87 tf183 V fun bg bh bi o aL W=>(j_o ⟨W.hasK ((f.trans m).trans o),W.hasObj m3⟩ (j1 9 u (lp underlying87 tf183 aL (I.mono ((f.trans m).trans o)) O W fun X Y aa bj aM ab aN ac=>(j_o ⟨ac.hasK (((f.trans m).trans o).trans ab),ac.hasObj m3⟩ (jv 10 u (rv_build (cs:=#[V6 q0.Id,V3 S T U,V3 X Y aa]) sp89 tf89 u (by kernel_rfl)) (j1 11 u ?_)))))))))
   refine lw [V6 q0.Id,V3 S T U,V3 X Y aa] tf89 ac.f2 fun bk y=>(j_o ⟨y.hasK (((f.trans m).trans o).trans ab),y.hasObj m3⟩ (jd (qe_seq (wc_ret ?_))))
   cases oi R
   exact ez results157 tf89 y m0 ⟨S,T,U,X,Y,aa,aM,u,y.f1.f2.s,G,(aK.mono (o.trans ab)),aN⟩
  refine b0 tGAttr underlying87 tf183 x fun bl bm bn i aO ad=>(j_o ⟨ad.hasK (f.trans i),ad.hasObj m3⟩ (j1 5 u (lp underlying86 tf170 (aD.mono i) (H.mono (f.trans i)) J ad.f1 fun ae af ag bo bp q aP ah=>(j_o ⟨ah.hasK ((f.trans i).trans q),ah.hasObj m3⟩ (j1 9 u (lp underlying87 tf183 (aO.mono q) (I.mono ((f.trans i).trans q)) O ah.f1 fun ai aj ak bq aQ am aR an=>(j_o ⟨an.hasK (((f.trans i).trans q).trans am),an.hasObj m3⟩ (jv 10 u (rv_build (cs:=#[V6 q0.Id,V3 ae af ag,V3 ai aj ak]) sp89 tf89 u (by kernel_rfl)) (j1 11 u ?_)))))))))
  refine lw [V6 q0.Id,V3 ae af ag,V3 ai aj ak] tf89 an.f2 fun br C=>(j_o ⟨C.hasK (((f.trans i).trans q).trans am),C.hasObj m3⟩ (jd (qe_seq (wc_ret ?_))))
  cases oi R
  exact ez results157 tf89 C m0 ⟨ae,af,ag,ai,aj,ak,aQ,u,C.f1.f2.s,G,(aP.mono am),aR⟩
 refine b0 tGAttr underlying87 tf183 v fun bs bu bv k aS ao=>(j_o ⟨ao.hasK k,ao.hasObj m2⟩ (j1 2 u (b0 tGField underlying86 tf170 ao fun bz bA bB l aT ap=>(j_o ⟨ap.hasK (k.trans l),ap.hasObj m3⟩ (j1 5 u (lp underlying86 tf170 aT (H.mono (k.trans l)) J ap fun aq ar au bC bD s aU aw=>(j_o ⟨aw.hasK ((k.trans l).trans s),aw.hasObj m3⟩ (j1 9 u (lp underlying87 tf183 (aS.mono (l.trans s)) (I.mono ((k.trans l).trans s)) O aw.f1 fun ax ay az bE aV aA aW aB=>?_)))))))))
 refine j_o ⟨aB.hasK (((k.trans l).trans s).trans aA),aB.hasObj m3⟩ (jv 10 u (rv_build (cs:=#[V6 q0.Id,V3 aq ar au,V3 ax ay az]) sp89 tf89 u (by kernel_rfl)) (j1 11 u (lw [V6 q0.Id,V3 aq ar au,V3 ax ay az] tf89 aB.f2 fun bF D=>(j_o ⟨D.hasK (((k.trans l).trans s).trans aA),D.hasObj m3⟩ (jd (qe_seq (wc_ret ?_)))))))
 cases oi R
 exact ez results157 tf89 D m0 ⟨aq,ar,au,ax,ay,az,aV,u,D.f1.f2.s,G,(aU.mono aA),aW⟩

theorem ok_impl_cloneDocs {q0:List GDoc}{r:(List GDoc)}(hS:SH w K [] w K [])(x:SliceAt tGDoc K A a b q0)(hm:M.impl_cloneDocs F q0=some r):
  Calls prog 117 #[V3 A a b] w fun e w'=>∃a_1 n_2 c_3 K',e= .returned (V3 a_1 n_2 c_3)∧SH w K [] w' K' [tail (V3 a_1 n_2 c_3) 89 3]∧SliceAt tGDoc K' a_1 n_2 c_3 r:=by
 rw [M.impl_cloneDocs] at hm
 refine ci func117 u ntmps117 (sr (lv (r_n u) (nr (b0 tGDoc underlying38 tf89 hS fun a5 w6 y B ag ah=>(av u (nsr (mv u (lv (rv_len underlying38 u (x.mono B)) (lv (r_m u) ?_)))))))))
 refine nq ?_
 obtain⟨ai,aj,ak⟩:=ob hm
 refine wc_cutg (fun E' w'=>∃k l m o,E'=[(3,V3 k l m)]∧SH w K [] w' o [tail (V3 k l m) 89 3]∧KLe y o∧SliceAt tGDoc o k l m ai) ?_ ?_
 ·refine wc_block ?_
  obtain⟨bb,am,an⟩:=ob aj
  refine qF (fun (ad:Nat) (C:(List GDoc)) E' w'=>∃c d f i,E'=[(3,V3 c d f),(7,V3 A a b),(8,V6 (q0.length:Int)),(9,V6 ((ad:Nat):Int))]∧SH w K [] w' i [tail (V3 c d f) 89 3]∧KLe y i∧SliceAt tGDoc i c d f C) am ⟨a5,0,0,y,u,ah,kr,ag⟩ ?_ ?_
  ·rintro ad C _ ao bc hi37 ap ⟨c,d,f,i,rfl,q,s,D⟩
   refine sr (lv (rv_lss u u) (ns (wc_cond_t u (decide_eq_true (by omega)) (wc_skip (qe_seq (wc_seq (wc_block (sr ?_))))))))
   obtain⟨G,aq,ar⟩:=ob ap
   refine li underlying38 tf89 (x.mono (B.trans s)) aq fun au aw bd ax ay=>?_
   obtain⟨H,I,J,O,R,S,rfl,az,aA,aB⟩:=ax
   have aC:AtK _ au aw [V6 G.Id,V3 H I J,V3 O R S]:=ay
   refine lv (rv_loadS tf89 u q aC u) (al tf89 q fun aD be aE=>?_)
   have aF:SH _ _ _ _ _ [obj aD [V6 0,V3 none 0 0,V3 none 0 0] 89,_]:=aE
   refine lw [V6 G.Id,V3 H I J,V3 O R S] tf89 aF fun bf T=>(nq (wc_region (mv u (lv (rv_loadmS (ds:=[V6 G.Id,V3 H I J,V3 O R S]) tf89 u m0 T u u) ?_))))
   obtain⟨U,aG,aH⟩:=ob ar
   refine lk co157 (ok_impl_cloneDoc F T.enter0 az aA aB aG) ?_
   rintro bg bh ⟨V,W,X,Y,aa,ab,bi,rfl,ac,aI,aJ,aK⟩
   have aL:=(T.c0 ac).t4
   refine lb tGDoc (.agg #[V6 U.Id,V3 V W X,V3 Y aa ab]) [V6 U.Id,V3 V W X,V3 Y aa ab] U underlying38 tf89 ⟨V,W,X,Y,aa,ab,u,aI,aJ,aK⟩ aL fun bj bk bl ae aM aN=>?_
   obtain⟨bm,aO,aP⟩:=ob aH
   refine lp underlying38 tf89 (D.mono (ac.le.trans ae)) aM aO aN.f4 fun aQ aR aS bn aT aU aV aW=>(av u (nb (qg (lv (rv_add_to u u (w64_succ hi37 (SliceAt.max (x.mono B)))) (mv u (wl_nil ?_))))))
   cases oi aP
   exact qd ⟨aQ,aR,aS,aT,u,aW.s,(((s.trans ac.le).trans ae).trans aU),aV⟩
  rintro C _ ao aX ⟨c,d,f,i,rfl,q,s,D⟩
  subst aX
  refine sr (lv (rv_lss u u) (ns (wc_cond_f u (decide_eq_false (by omega)) (wc_exit (qe_then_exit (qe_then_exit (qe_block_eq ?_)))))))
  cases oi an
  exact qd ⟨c,d,f,i,u,q,s,D⟩
 rintro _ bo ⟨k,l,m,o,rfl,aY,bp,aZ⟩
 refine qr (mv u (av u (nq (wc_ret ?_))))
 cases oi ak
 exact ey results117 ⟨k,l,m,o,u,aY,aZ⟩

theorem ok_impl_Seg_doc__ofGScorer1 {q0:GScorer}{q1:Int}{r:GDoc×Bool}(hS:SH w K Z w K [obj g1 [V3 A a b,V3 B c d,V3 C f i,V3 D k l] 69])(aU:SliceAt tStr K A a b q0.c_.Stops)(aV:SliceAt tGSyn K B c d q0.c_.Syns)(ad:SliceAt tGDoc K C f i q0.s_.Docs)(aW:SliceAt tGEntry K D k l q0.s_.Entries)(aX:rng64 q1)(hm:M.impl_Seg_doc__ofGScorer1 F q0 q1=some r):
  Calls prog 135 #[.pointer (some ⟨g1,2,none⟩),V6 q1] w fun e w'=>∃a_2 n_3 c_4 a_6 n_7 c_8 K',e= .returned (.tuple #[.agg #[V6 r.1.Id,V3 a_2 n_3 c_4,V3 a_6 n_7 c_8],.bool r.2])∧SH w K Z w' K' [obj g1 [V3 A a b,V3 B c d,V3 C f i,V3 D k l] 69]∧rng64 r.1.Id∧SliceAt tGField K' a_2 n_3 c_4 r.1.Fields∧SliceAt tGAttr K' a_6 n_7 c_8 r.1.Nums:=by
 rw [M.impl_Seg_doc__ofGScorer1] at hm
 refine ci func135 u ntmps135 (sr (al tf89 hS fun W aY ax=>?_))
 have ap:SH _ _ _ _ _ [obj W [V6 0,V3 none 0 0,V3 none 0 0] 89,_]:=ax
 refine lv (r_f u) (nsr (mv u (lv (rv_nilCheck u) (fl ff41_0 u tf38 m1 ap u (lv (rv_len underlying38 u ad) (lv (r_m u) (nq ?_)))))))
 obtain⟨ay,az,Y⟩:=ob hm
 refine wc_cutg (fun E' w'=>∃o ae af ag ah ai aj q,ay= .inl o∧E'=[(0,.pointer (some ⟨g1,2,none⟩)),(4,pt W)]∧SH w K Z w' q [obj g1 [V3 A a b,V3 B c d,V3 C f i,V3 D k l] 69,obj W [V6 o.Id,V3 ae af ag,V3 ah ai aj] 89]∧KLe K q∧rng64 o.Id∧SliceAt tGField q ae af ag o.Fields∧SliceAt tGAttr q ah ai aj o.Nums) ?_ ?_
 ·refine wc_block ?_
  obtain⟨aZ,aA,aq⟩:=ob az
  refine qf (fun (ar:Nat) (s:GDoc) E' w'=>∃x y G H I J m,E'=[(0,.pointer (some ⟨g1,2,none⟩)),(1,V6 q1),(4,pt W),(11,V3 C f i),(12,V6 (q0.s_.Docs.length:Int)),(13,V6 ((ar:Nat):Int))]∧SH w K Z w' m [obj g1 [V3 A a b,V3 B c d,V3 C f i,V3 D k l] 69,obj W [V6 s.Id,V3 x y G,V3 H I J] 89]∧KLe K m∧rng64 s.Id∧SliceAt tGField m x y G s.Fields∧SliceAt tGAttr m H I J s.Nums) aA ⟨none,0,0,none,0,0,K,u,ap.f1,kr,d_0,(SliceAt.nil _ _),(SliceAt.nil _ _)⟩ ?_ ?_
  ·rintro ar s _ aB ba hi60 aC aD ⟨x,y,G,H,I,J,m,rfl,aa,ab,ak,am,an⟩
   refine sr (lv (rv_lss u u) (ns (wc_cond_t u (decide_eq_true (by omega)) (wc_skip (qe_seq (wc_seq (wc_block (sr ?_))))))))
   obtain⟨X,aE,aF⟩:=ob aC
   refine li underlying38 tf89 (ad.mono ab) aE fun aG aH bb aI aJ=>?_
   obtain⟨O,R,S,T,U,V,rfl,aK,aL,aM⟩:=aI
   have aN:AtK _ aG aH [V6 X.Id,V3 O R S,V3 T U V]:=aJ
   refine lv (rv_loadS tf89 u aa aN u) (al tf89 aa fun aO bc aP=>?_)
   have aQ:SH _ _ _ _ _ [obj aO [V6 0,V3 none 0 0,V3 none 0 0] 89,_,_]:=aP
   refine lw [V6 X.Id,V3 O R S,V3 T U V] tf89 aQ fun bd ac=>(nr (fl ff89_0 u tf3 m0 ac u (mv u (lv (rv_eql u u) (nq (wcc aF u (fun aR ao=>?_) (fun aR ao=>?_)))))))
   ·refine sr (lv (rv_loadmS (ds:=[V6 X.Id,V3 O R S,V3 T U V]) tf89 u m0 ac u u) (lw [V6 X.Id,V3 O R S,V3 T U V] tf89 ac.f2 fun be au=>(lv (r_t u) (nq (wc_ret (qe_block_ret (qe_then_ret (qe_then_ret ?_))))))))
    cases oi ao
    cases aD _ u
    refine qe_block_ret (qe_then_ret ?_)
    cases oi aq
    refine qe_then_ret ?_
    cases oi Y
    exact qe_ret (vs:=[_,_]) results135 ⟨⟨_,_,u,run_loadVar_at tf89 (cs:=[V6 X.Id,V3 O R S,V3 T U V]) (fun j c e=>by rw [Nat.zero_add,au.mem_obj m0];exact e) (.inl ⟨u,u,u⟩)⟩,u,trivial⟩ ⟨O,R,S,T,U,V,m,u,au.s,aK,aL,aM⟩
   refine wc_skip (qe_block (qg (lv (rv_add_to u u (w64_succ hi60 (SliceAt.max ad))) (mv u (wl_nil ?_)))))
   cases oi ao
   exact qd ⟨_,u,x,y,G,H,I,J,m,u,ac.s,ab,ak,am,an⟩
  rintro s _ aB aS ⟨x,y,G,H,I,J,m,rfl,aa,ab,ak,am,an⟩
  subst aS
  refine sr (lv (rv_lss u u) (ns (wc_cond_f u (decide_eq_false (by omega)) (wc_exit (qe_then_exit (qe_then_exit (qe_block_eq ?_)))))))
  cases oi aq
  exact qd ⟨_,x,y,G,H,I,J,m,u,u,aa,ab,ak,am,an⟩
 rintro _ bf ⟨o,ae,af,ag,ah,ai,aj,q,rfl,rfl,aT,bg,bh,bi,bj⟩
 have Y:=elim_l Y
 refine qr (lv (rv_build (cs:=#[V6 0,V3 none 0 0,V3 none 0 0]) sp89 tf89 u (by kernel_rfl)) (lw [V6 0,V3 none 0 0,V3 none 0 0] tf89 aT.f1 fun bk aw=>(lv (r_f u) (nq (wc_ret ?_)))))
 cases oi Y
 exact qe_ret (vs:=[_,_]) results135 ⟨⟨_,_,u,run_loadVar_at tf89 (cs:=[V6 0,V3 none 0 0,V3 none 0 0]) (fun j c e=>by rw [Nat.zero_add,aw.mem_obj m0];exact e) (.inl ⟨u,u,u⟩)⟩,u,trivial⟩ ⟨none,0,0,none,0,0,q,u,aw.s,d_0,(SliceAt.nil _ _),(SliceAt.nil _ _)⟩

theorem ok_impl_BoundAt {q0:List GBlock}{q1:Int}{r:Int}(hS:SH w K [] w K [])(c:SliceAt tGBlock K A a b q0)(aT:rng64 q1)(hm:M.impl_BoundAt F q0 q1=some r):
  Calls prog 54 #[V3 A a b,V6 q1] w (R_i w K r):=by
 rw [M.impl_BoundAt] at hm
 refine ci func54 u ntmps54 (sr (lv (r_0 u) (nsr (lv (rv_assign (v:=V6 1) u) (nq ?_)))))
 obtain⟨W,X,f⟩:=ob hm
 refine wc_cutg (IE W w K [] K [(0,V3 A a b),(1,V6 q1)] []) ?_ ?_
 ·refine wc_block ?_
  obtain⟨aU,Y,G⟩:=ob X
  refine qw (fun (s:Int)=>IW w K [] K [(0,V3 A a b),(1,V6 q1),(5,V6 s)] [] (rng64 s)) Y ⟨K,u,hS,kr,(by decide :rng64 1)⟩ ?_
  rintro s _ aV aW aa H ⟨ab,rfl,I,d,aX⟩
  refine wc_seq (sr (mv u (mv u (lv (rv_len underlying32 u (c.mono d)) (lv (rv_lss u u) (nq (wcc aa u (fun ac x=>?_) (fun ac x=>?_))))))))
  ·refine wc_skip (qs (wc_block (wc_seq (wc_quiet mixed (by kernel_rfl) I (km u (km u (kv (rv_sub u u) ?_)))))))
   obtain⟨J,ad,ae⟩:=ob x
   refine ki underlying32 tf73 (c.mono d) ad fun af ag aY ah ai=>?_
   obtain⟨rfl,aZ,ba⟩:=ah
   have aj:AtK _ af ag [V6 J.Last,V6 J.Most]:=ai
   refine kv (rv_fieldAddr ff73_0 u) (kh (rq_load1 tf3 u (aj 0 _ u)) (km u (km u ?_)))
   obtain⟨O,ak,am⟩:=ob ae
   refine ki underlying32 tf73 (c.mono d) ak fun an ao bb ap aq=>?_
   obtain⟨rfl,bc,bd⟩:=ap
   have ar:AtK _ an ao [V6 O.Last,V6 O.Most]:=aq
   refine kv (rv_fieldAddr ff73_0 u) (kh (rq_load1 tf3 u (ar 0 _ u)) (kv (rv_geq u u) (wq_nil ?_)))
   rintro be ⟨R,S,au⟩
   refine qe_seq (wcc am u (fun aw y=>?_) (fun aw y=>?_))
   ·refine sr (lv (rv_assign (v:=V6 (-1)) u) (nq (wc_ret (qe_block_ret (qe_then_ret (qe_then_ret ?_))))))
    cases oi y
    cases H _ u
    refine qe_block_ret (qe_then_ret ?_)
    cases oi G
    refine qe_then_ret ?_
    cases oi f
    exact ey results54 ⟨R,u,S,(by decide :rng64 (-1))⟩
   refine wc_skip (qe_block (qe_seq (wc_region (mv u (lv (rv_add u u) (av u (wl_nil ?_)))))))
   cases oi y
   exact qd ⟨_,u,R,u,S,(d.trans au),(w64_rng _)⟩
  refine wc_exit (qe_then_exit (qe_then_exit ?_))
  cases oi x
  cases H _ u
  refine qe_block_eq ?_
  cases oi G
  exact qd ⟨_,ab,u,u,I,d⟩
 rintro _ bf ⟨s9,B,rfl,rfl,ax,C⟩
 have f:=elim_l f
 refine qs (sr (mv u (lv (rv_len underlying32 u (c.mono C)) (lv (r_m u) (nq ?_)))))
 obtain⟨ay,az,i⟩:=ob f
 refine wc_cutg (IE ay w K [] B [] []) ?_ ?_
 ·refine wc_block ?_
  obtain⟨bh,aA,T⟩:=ob az
  refine qf (fun (U:Nat) (V:Unit)=>IV w K [] B [(1,V6 q1),(26,V3 A a b),(27,V6 (q0.length:Int)),(28,V6 ((U:Nat):Int))] []) aA ⟨B,u,ax,kr⟩ ?_ ?_
  ·rintro U V _ aB bi hi78 aC aD ⟨k,rfl,l,m⟩
   refine sr (lv (rv_lss u u) (ns (wc_cond_t u (decide_eq_true (by omega)) (wc_skip (qe_seq (wc_seq (wc_block (sr ?_))))))))
   obtain⟨o,aE,aF⟩:=ob aC
   refine li underlying32 tf73 (c.mono (C.trans m)) aE fun aG aH bj aI aJ=>?_
   obtain⟨rfl,bk,aK⟩:=aI
   have aL:AtK _ aG aH [V6 o.Last,V6 o.Most]:=aJ
   refine lv (rv_loadS tf73 u l aL u) (al tf73 l fun aM bl aN=>?_)
   have aO:SH _ _ _ _ _ [obj aM [V6 0,V6 0] 73]:=aN
   refine lw [V6 o.Last,V6 o.Most] tf73 aO fun bm q=>(nr (fl ff73_0 u tf3 m0 q u (mv u (lv (rv_geq u u) (nq (wcc aF u (fun aP D=>?_) (fun aP D=>?_)))))))
   ·refine sr (fl ff73_1 u tf3 m0 q u (av u (nq (wc_ret (qe_block_ret (qe_then_ret (qe_then_ret ?_)))))))
    cases oi D
    cases aD _ u
    refine qe_block_ret (qe_then_ret ?_)
    cases oi T
    refine qe_then_ret ?_
    cases oi i
    exact ey results54 ⟨k,u,q.s,aK⟩
   refine wc_skip (qe_block (qg (lv (rv_add_to u u (w64_succ hi78 (SliceAt.max (c.mono C)))) (mv u (wl_nil ?_)))))
   cases oi D
   exact qd ⟨_,u,k,u,q.s,m⟩
  rintro V _ aB aQ ⟨k,rfl,l,m⟩
  subst aQ
  refine sr (lv (rv_lss u u) (ns (wc_cond_f u (decide_eq_false (by omega)) (wc_exit (qe_then_exit (qe_then_exit (qe_block_eq ?_)))))))
  cases oi T
  exact qe_mid' ⟨_,k,u,u,l,m⟩ trivial
 rintro _ bn ⟨bo,aR,rfl,rfl,aS,bp⟩
 have i:=elim_l i
 refine qr (lv (r_0 u) (nq (wc_ret ?_)))
 cases oi i
 exact ey results54 ⟨aR,u,aS,d_0⟩
end Go.Proofs.YtfiahfncijjliaaGreatDoor
