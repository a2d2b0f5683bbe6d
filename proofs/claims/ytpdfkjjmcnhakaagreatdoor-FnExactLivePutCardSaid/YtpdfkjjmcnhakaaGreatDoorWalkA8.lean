/-
 Walks of the functions. Printed by gen.py.
-/
import Derived.Test.YtpdfkjjmcnhakaaGreatDoorWalkA0
import Derived.Test.YtpdfkjjmcnhakaaGreatDoorWalkA1
import Derived.Test.YtpdfkjjmcnhakaaGreatDoorWalkA3
import Derived.Test.YtpdfkjjmcnhakaaGreatDoorWalkA4
import Derived.Test.YtpdfkjjmcnhakaaGreatDoorWalkA7
set_option linter.unusedVariables false
set_option linter.unusedSectionVars false
set_option maxRecDepth 100000
namespace Go.Proofs.YtpdfkjjmcnhakaaGreatDoor
set_option maxHeartbeats 4000000
open Go Go.Fk Go.RowKit Tryz
variable (F:Nat){w:World}{K:KMap}{Z:List Nat}{g1 g2 g3:Nat}{A B C D G H I J O R S T:Option Addr}{a b c d f i k l m n o p q s v x y aa ab ac ad ae af ag:Nat}
variable [dr:Dr]

theorem ok_laws_eqDocS {q0:List GDoc}{q1:List GDoc}{r:Bool}(hS:SH w K [] w K [])(l:SliceAt tGDoc K A a b q0)(y:SliceAt tGDoc K B c d q1)(hm:M.laws_eqDocS F q0 q1=some r):
  Calls prog 78 #[V3 A a b,V3 B c d] w (R_b w K r):=by
 rw [M.laws_eqDocS] at hm
 refine ci func78 u ntmps78 (sr (lv (r_f u) (nsr (mv u (lv (rv_len underlying40 u l) (mv u (lv (rv_len underlying40 u y) (lv (rv_neq u u) (nq ?_)))))))))
 refine wc_cond u (fun m=>?_) (fun m=>?_)
 ·have o:=cond_t m hm
  refine sr (lv (r_f u) (nq (rr ?_)))
  cases oi o
  exact ey results78 ⟨K,u,hS⟩
 have o:=cond_f m hm
 refine wc_skip (qs (sr (lv (r_0 u) (nq ?_))))
 obtain⟨J,O,i⟩:=ob o
 refine wc_cutg (IE J w K [] K [] []) ?_ ?_
 ·refine wc_block ?_
  obtain⟨aO,R,C⟩:=ob O
  refine qw (fun (q:Int)=>IW w K [] K [(0,V3 A a b),(1,V3 B c d),(5,V6 q)] [] (rng64 q)) R ⟨K,u,hS,kr,d_0⟩ ?_
  rintro q _ aP aQ S D ⟨T,rfl,G,f,aR⟩
  refine wc_seq (sr (mv u (mv u (lv (rv_len underlying40 u (l.mono f)) (lv (rv_lss u u) (nq (wcc S u (fun U s=>?_) (fun U s=>?_))))))))
  ·refine wc_skip (qs (wc_block (wc_seq (wc_quiet mixed (by kernel_rfl) G (km u (km u ?_))))))
   obtain⟨V,W,X⟩:=ob s
   refine ki underlying40 tf64 (l.mono f) W fun Y aa aS ab ac=>?_
   obtain⟨ad,ae,af,ag,ah,ai,rfl,aj,ak,al⟩:=ab
   have am:AtK _ Y aa [V6 V.Id,V3 ad ae af,V3 ag ah ai]:=ac
   refine kh (rq_loadS tf64 u am u) (km u (km u ?_))
   obtain⟨an,ao,ap⟩:=ob X
   refine ki underlying40 tf64 (y.mono f) ao fun aq ar aT au aw=>?_
   obtain⟨ax,ay,az,aA,aB,aC,rfl,aD,aE,aF⟩:=au
   have aG:AtK _ aq ar [V6 an.Id,V3 ax ay az,V3 aA aB aC]:=aw
   refine kh (rq_loadS tf64 u aG u) ?_
   obtain⟨aU,aH,aI⟩:=ob ap
   refine kc co127 (fun _ _ aJ k=>(ok_laws_eqDoc F) aJ.enter0 aj (ak.mono k) (al.mono k) aD (aE.mono k) (aF.mono k) aH) (kv (rv_not u) (wq_nil ?_))
   rintro aV ⟨H,I,aK⟩
   refine qe_seq (wcc aI u (fun aL x=>?_) (fun aL x=>?_))
   ·refine sr (lv (r_f u) (nq (wc_ret (qe_block_ret (qe_then_ret (qe_then_ret ?_))))))
    cases oi x
    cases D _ u
    refine qe_block_ret (qe_then_ret ?_)
    cases oi C
    refine qe_then_ret ?_
    cases oi i
    exact ey results78 ⟨H,u,I⟩
   refine wc_skip (qe_block (qe_seq (wc_region (mv u (lv (rv_add u u) (av u (wl_nil ?_)))))))
   cases oi x
   exact qd ⟨_,u,H,u,I,(f.trans aK),(w64_rng _)⟩
  refine wc_exit (qe_then_exit (qe_then_exit ?_))
  cases oi s
  cases D _ u
  refine qe_block_eq ?_
  cases oi C
  exact qe_mid' ⟨_,T,u,u,G,f⟩ trivial
 rintro _ aW ⟨aX,aM,rfl,rfl,aN,aY⟩
 have i:=elim_l i
 refine qr (lv (r_t u) (nq (wc_ret ?_)))
 cases oi i
 exact ey results78 ⟨aM,u,aN⟩

theorem ok_laws_eqIntS {q0:List Int}{q1:List Int}{r:Bool}(hS:SH w K [] w K [])(k:SliceAt tInt K A a b q0)(x:SliceAt tInt K B c d q1)(hm:M.laws_eqIntS F q0 q1=some r):
  Calls prog 38 #[V3 A a b,V3 B c d] w (R_b w K r):=by
 rw [M.laws_eqIntS] at hm
 refine ci func38 u ntmps38 (sr (lv (r_f u) (nsr (mv u (lv (rv_len underlying30 u k) (mv u (lv (rv_len underlying30 u x) (lv (rv_neq u u) (nq ?_)))))))))
 refine wc_cond u (fun l=>?_) (fun l=>?_)
 ·have m:=cond_t l hm
  refine sr (lv (r_f u) (nq (rr ?_)))
  cases oi m
  exact ey results38 ⟨K,u,hS⟩
 have m:=cond_f l hm
 refine wc_skip (qs (sr (lv (r_0 u) (nq ?_))))
 obtain⟨I,J,i⟩:=ob m
 refine wc_cutg (IE I w K [] K [] []) ?_ ?_
 ·refine wc_block ?_
  obtain⟨ap,O,y⟩:=ob J
  refine qw (fun (o:Int)=>IW w K [] K [(0,V3 A a b),(1,V3 B c d),(5,V6 o)] [] (rng64 o)) O ⟨K,u,hS,kr,d_0⟩ ?_
  rintro o _ aq ar R C ⟨S,rfl,D,f,au⟩
  refine wc_seq (sr (mv u (mv u (lv (rv_len underlying30 u (k.mono f)) (lv (rv_lss u u) (nq (wcc R u (fun T q=>?_) (fun T q=>?_))))))))
  ·refine wc_skip (qs (wc_block (wc_seq (wc_quiet mixed (by kernel_rfl) D (km u (km u ?_))))))
   obtain⟨U,V,W⟩:=ob q
   refine ki underlying30 tf3 (k.mono f) V fun X Y aw aa ab=>?_
   obtain⟨rfl,ax⟩:=aa
   have ac:AtK _ X Y [V6 U]:=ab
   refine kh (rq_load1 tf3 u (ac 0 _ u)) (km u (km u ?_))
   obtain⟨ad,ae,af⟩:=ob W
   refine ki underlying30 tf3 (x.mono f) ae fun ag ah ay ai aj=>?_
   obtain⟨rfl,az⟩:=ai
   have ak:AtK _ ag ah [V6 ad]:=aj
   refine kh (rq_load1 tf3 u (ak 0 _ u)) (kv (rv_neq u u) (wq_nil ?_))
   rintro aA ⟨G,H,al⟩
   refine qe_seq (wcc af u (fun am s=>?_) (fun am s=>?_))
   ·refine sr (lv (r_f u) (nq (wc_ret (qe_block_ret (qe_then_ret (qe_then_ret ?_))))))
    cases oi s
    cases C _ u
    refine qe_block_ret (qe_then_ret ?_)
    cases oi y
    refine qe_then_ret ?_
    cases oi i
    exact ey results38 ⟨G,u,H⟩
   refine wc_skip (qe_block (qe_seq (wc_region (mv u (lv (rv_add u u) (av u (wl_nil ?_)))))))
   cases oi s
   exact qd ⟨_,u,G,u,H,(f.trans al),(w64_rng _)⟩
  refine wc_exit (qe_then_exit (qe_then_exit ?_))
  cases oi q
  cases C _ u
  refine qe_block_eq ?_
  cases oi y
  exact qe_mid' ⟨_,S,u,u,D,f⟩ trivial
 rintro _ aB ⟨aC,an,rfl,rfl,ao,aD⟩
 have i:=elim_l i
 refine qr (lv (r_t u) (nq (wc_ret ?_)))
 cases oi i
 exact ey results38 ⟨an,u,ao⟩

theorem ok_laws_eqPost {q0:GPost}{q1:GPost}{r:Bool}(hS:SH w K [] w K [])(R:rng64 q0.Doc)(q:SliceAt tInt K A a b q0.At)(S:rng64 q1.Doc)(s:SliceAt tInt K B c d q1.At)(hm:M.laws_eqPost F q0 q1=some r):
  Calls prog 221 #[.agg #[V6 q0.Doc,V3 A a b],.agg #[V6 q1.Doc,V3 B c d]] w (R_b w K r):=by
 rw [M.laws_eqPost] at hm
 refine ci func221 u ntmps221 (sr (bx u hS fun x T y=>?_))
 have C:SH _ _ _ _ _ [obj x [V6 q0.Doc,V3 A a b] 153]:=y
 refine bx u C fun D U G=>?_
 have f:SH _ _ _ _ _ [obj D [V6 q1.Doc,V3 B c d] 153,_]:=G
 refine lv (r_f u) (nsr (fl ff153_0 u tf3 m1 f u (fl ff153_0 u tf3 m0 f u (lv (rv_neq u u) (nq (wc_cond u (fun i=>?_) (fun i=>?_)))))))
 ·have k:=cond_t i hm
  refine sr (lv (r_f u) (nq (rr ?_)))
  cases oi k
  exact ey results221 ⟨K,u,f.s⟩
 have k:=cond_f i hm
 refine wc_skip (qs (sr (fl ff153_1 u tf30 m1 f u (fl ff153_1 u tf30 m0 f u ?_))))
 obtain⟨V,H,I⟩:=ob k
 refine lk co38 (ok_laws_eqIntS F f.enter0 q s H) ?_
 rintro W X ⟨m,rfl,J⟩
 have o:=(f.c0 J).t2
 refine lv (rv_not u) (nq (wcc I u (fun O l=>?_) (fun O l=>?_)))
 ·refine sr (lv (r_f u) (nq (rr ?_)))
  cases oi l
  exact ey results221 ⟨m,u,o.s⟩
 refine wc_skip (qr (lv (r_t u) (nq (wc_ret ?_))))
 cases oi l
 exact ey results221 ⟨m,u,o.s⟩

theorem ok_laws_eqPostS {q0:List GPost}{q1:List GPost}{r:Bool}(hS:SH w K [] w K [])(k:SliceAt tGPost K A a b q0)(x:SliceAt tGPost K B c d q1)(hm:M.laws_eqPostS F q0 q1=some r):
  Calls prog 174 #[V3 A a b,V3 B c d] w (R_b w K r):=by
 rw [M.laws_eqPostS] at hm
 refine ci func174 u ntmps174 (sr (lv (r_f u) (nsr (mv u (lv (rv_len underlying95 u k) (mv u (lv (rv_len underlying95 u x) (lv (rv_neq u u) (nq ?_)))))))))
 refine wc_cond u (fun l=>?_) (fun l=>?_)
 ·have m:=cond_t l hm
  refine sr (lv (r_f u) (nq (rr ?_)))
  cases oi m
  exact ey results174 ⟨K,u,hS⟩
 have m:=cond_f l hm
 refine wc_skip (qs (sr (lv (r_0 u) (nq ?_))))
 obtain⟨J,O,i⟩:=ob m
 refine wc_cutg (IE J w K [] K [] []) ?_ ?_
 ·refine wc_block ?_
  obtain⟨aG,R,y⟩:=ob O
  refine qw (fun (o:Int)=>IW w K [] K [(0,V3 A a b),(1,V3 B c d),(5,V6 o)] [] (rng64 o)) R ⟨K,u,hS,kr,d_0⟩ ?_
  rintro o _ aH aI S C ⟨T,rfl,D,f,aJ⟩
  refine wc_seq (sr (mv u (mv u (lv (rv_len underlying95 u (k.mono f)) (lv (rv_lss u u) (nq (wcc S u (fun U q=>?_) (fun U q=>?_))))))))
  ·refine wc_skip (qs (wc_block (wc_seq (wc_quiet mixed (by kernel_rfl) D (km u (km u ?_))))))
   obtain⟨V,W,X⟩:=ob q
   refine ki underlying95 tf153 (k.mono f) W fun Y aa aK ab ac=>?_
   obtain⟨ad,ae,af,rfl,ag,ah⟩:=ab
   have ai:AtK _ Y aa [V6 V.Doc,V3 ad ae af]:=ac
   refine kh (rq_loadS tf153 u ai u) (km u (km u ?_))
   obtain⟨aj,ak,al⟩:=ob X
   refine ki underlying95 tf153 (x.mono f) ak fun am an aL ao ap=>?_
   obtain⟨aq,ar,au,rfl,aw,ax⟩:=ao
   have ay:AtK _ am an [V6 aj.Doc,V3 aq ar au]:=ap
   refine kh (rq_loadS tf153 u ay u) ?_
   obtain⟨aM,az,aA⟩:=ob al
   refine kc co221 (fun _ _ aB G=>(ok_laws_eqPost F) aB.enter0 ag (ah.mono G) aw (ax.mono G) az) (kv (rv_not u) (wq_nil ?_))
   rintro aN ⟨H,I,aC⟩
   refine qe_seq (wcc aA u (fun aD s=>?_) (fun aD s=>?_))
   ·refine sr (lv (r_f u) (nq (wc_ret (qe_block_ret (qe_then_ret (qe_then_ret ?_))))))
    cases oi s
    cases C _ u
    refine qe_block_ret (qe_then_ret ?_)
    cases oi y
    refine qe_then_ret ?_
    cases oi i
    exact ey results174 ⟨H,u,I⟩
   refine wc_skip (qe_block (qe_seq (wc_region (mv u (lv (rv_add u u) (av u (wl_nil ?_)))))))
   cases oi s
   exact qd ⟨_,u,H,u,I,(f.trans aC),(w64_rng _)⟩
  refine wc_exit (qe_then_exit (qe_then_exit ?_))
  cases oi q
  cases C _ u
  refine qe_block_eq ?_
  cases oi y
  exact qe_mid' ⟨_,T,u,u,D,f⟩ trivial
 rintro _ aO ⟨aP,aE,rfl,rfl,aF,aQ⟩
 have i:=elim_l i
 refine qr (lv (r_t u) (nq (wc_ret ?_)))
 cases oi i
 exact ey results174 ⟨aE,u,aF⟩

theorem ok_laws_eqEntry {q0:GEntry}{q1:GEntry}{r:Bool}(hS:SH w K [] w K [])(T:q0.Field.length≤maxLen)(U:q0.Term.length≤maxLen)(s:SliceAt tGPost K A a b q0.Posts)(V:q1.Field.length≤maxLen)(W:q1.Term.length≤maxLen)(x:SliceAt tGPost K B c d q1.Posts)(hm:M.laws_eqEntry F q0 q1=some r):
  Calls prog 128 #[.agg #[sv q0.Field,sv q0.Term,V3 A a b],.agg #[sv q1.Field,sv q1.Term,V3 B c d]] w (R_b w K r):=by
 rw [M.laws_eqEntry] at hm
 refine ci func128 u ntmps128 (sr (bx u hS fun y X C=>?_))
 have D:SH _ _ _ _ _ [obj y [sv q0.Field,sv q0.Term,V3 A a b] 97]:=C
 refine bx u D fun G Y H=>?_
 have f:SH _ _ _ _ _ [obj G [sv q1.Field,sv q1.Term,V3 B c d] 97,_]:=H
 refine lv (r_f u) (nsr (fl ff97_0 u tf9 m1 f u (fl ff97_0 u tf9 m0 f u (lv (rv_sneq u u) (nq (wc_cond u (fun i=>?_) (fun i=>?_)))))))
 ·have k:=cond_t i hm
  refine sr (lv (r_f u) (nq (rr ?_)))
  cases oi k
  exact ey results128 ⟨K,u,f.s⟩
 have k:=cond_f i hm
 refine wc_skip (qs (sr (fl ff97_1 u tf9 m1 f u (fl ff97_1 u tf9 m0 f u (lv (rv_sneq u u) (nq (wcc k u (fun I l=>?_) (fun I l=>?_))))))))
 ·refine sr (lv (r_f u) (nq (rr ?_)))
  cases oi l
  exact ey results128 ⟨K,u,f.s⟩
 refine wc_skip (qs (sr (fl ff97_2 u tf95 m1 f u (fl ff97_2 u tf95 m0 f u ?_))))
 obtain⟨aa,J,O⟩:=ob l
 refine lk co174 (ok_laws_eqPostS F f.enter0 s x J) ?_
 rintro ab ac ⟨o,rfl,R⟩
 have q:=(f.c0 R).t2
 refine lv (rv_not u) (nq (wcc O u (fun S m=>?_) (fun S m=>?_)))
 ·refine sr (lv (r_f u) (nq (rr ?_)))
  cases oi m
  exact ey results128 ⟨o,u,q.s⟩
 refine wc_skip (qr (lv (r_t u) (nq (wc_ret ?_))))
 cases oi m
 exact ey results128 ⟨o,u,q.s⟩

theorem ok_laws_eqEntryS {q0:List GEntry}{q1:List GEntry}{r:Bool}(hS:SH w K [] w K [])(k:SliceAt tGEntry K A a b q0)(x:SliceAt tGEntry K B c d q1)(hm:M.laws_eqEntryS F q0 q1=some r):
  Calls prog 79 #[V3 A a b,V3 B c d] w (R_b w K r):=by
 rw [M.laws_eqEntryS] at hm
 refine ci func79 u ntmps79 (sr (lv (r_f u) (nsr (mv u (lv (rv_len underlying41 u k) (mv u (lv (rv_len underlying41 u x) (lv (rv_neq u u) (nq ?_)))))))))
 refine wc_cond u (fun l=>?_) (fun l=>?_)
 ·have m:=cond_t l hm
  refine sr (lv (r_f u) (nq (rr ?_)))
  cases oi m
  exact ey results79 ⟨K,u,hS⟩
 have m:=cond_f l hm
 refine wc_skip (qs (sr (lv (r_0 u) (nq ?_))))
 obtain⟨R,S,i⟩:=ob m
 refine wc_cutg (IE R w K [] K [] []) ?_ ?_
 ·refine wc_block ?_
  obtain⟨aI,T,y⟩:=ob S
  refine qw (fun (o:Int)=>IW w K [] K [(0,V3 A a b),(1,V3 B c d),(5,V6 o)] [] (rng64 o)) T ⟨K,u,hS,kr,d_0⟩ ?_
  rintro o _ aJ aK U C ⟨V,rfl,D,f,aL⟩
  refine wc_seq (sr (mv u (mv u (lv (rv_len underlying41 u (k.mono f)) (lv (rv_lss u u) (nq (wcc U u (fun W q=>?_) (fun W q=>?_))))))))
  ·refine wc_skip (qs (wc_block (wc_seq (wc_quiet mixed (by kernel_rfl) D (km u (km u ?_))))))
   obtain⟨G,X,Y⟩:=ob q
   refine ki underlying41 tf97 (k.mono f) X fun aa ab aM ac ad=>?_
   obtain⟨ae,af,ag,rfl,ah,ai,aj⟩:=ac
   have ak:AtK _ aa ab [sv G.Field,sv G.Term,V3 ae af ag]:=ad
   refine kh (rq_loadS tf97 u ak u) (km u (km u ?_))
   obtain⟨H,al,am⟩:=ob Y
   refine ki underlying41 tf97 (x.mono f) al fun an ao aN ap aq=>?_
   obtain⟨ar,au,aw,rfl,ax,ay,az⟩:=ap
   have aA:AtK _ an ao [sv H.Field,sv H.Term,V3 ar au aw]:=aq
   refine kh (rq_loadS tf97 u aA u) ?_
   obtain⟨aO,aB,aC⟩:=ob am
   refine kc co128 (fun _ _ aD I=>(ok_laws_eqEntry F) aD.enter0 ah ai (aj.mono I) ax ay (az.mono I) aB) (kv (rv_not u) (wq_nil ?_))
   rintro aP ⟨J,O,aE⟩
   refine qe_seq (wcc aC u (fun aF s=>?_) (fun aF s=>?_))
   ·refine sr (lv (r_f u) (nq (wc_ret (qe_block_ret (qe_then_ret (qe_then_ret ?_))))))
    cases oi s
    cases C _ u
    refine qe_block_ret (qe_then_ret ?_)
    cases oi y
    refine qe_then_ret ?_
    cases oi i
    exact ey results79 ⟨J,u,O⟩
   refine wc_skip (qe_block (qe_seq (wc_region (mv u (lv (rv_add u u) (av u (wl_nil ?_)))))))
   cases oi s
   exact qd ⟨_,u,J,u,O,(f.trans aE),(w64_rng _)⟩
  refine wc_exit (qe_then_exit (qe_then_exit ?_))
  cases oi q
  cases C _ u
  refine qe_block_eq ?_
  cases oi y
  exact qe_mid' ⟨_,V,u,u,D,f⟩ trivial
 rintro _ aQ ⟨aR,aG,rfl,rfl,aH,aS⟩
 have i:=elim_l i
 refine qr (lv (r_t u) (nq (wc_ret ?_)))
 cases oi i
 exact ey results79 ⟨aG,u,aH⟩

theorem ok_laws_eqSeg {q0:GSeg}{q1:GSeg}{r:Bool}(hS:SH w K [] w K [])(H:SliceAt tGDoc K A a b q0.Docs)(I:SliceAt tGEntry K B c d q0.Entries)(J:SliceAt tGDoc K C f i q1.Docs)(O:SliceAt tGEntry K D k l q1.Entries)(hm:M.laws_eqSeg F q0 q1=some r):
  Calls prog 37 #[.agg #[V3 A a b,V3 B c d],.agg #[V3 C f i,V3 D k l]] w (R_b w K r):=by
 rw [M.laws_eqSeg] at hm
 refine ci func37 u ntmps37 (sr (bx u hS fun R af S=>?_))
 have T:SH _ _ _ _ _ [obj R [V3 A a b,V3 B c d] 43]:=S
 refine bx u T fun U ag V=>?_
 have o:SH _ _ _ _ _ [obj U [V3 C f i,V3 D k l] 43,_]:=V
 refine lv (r_f u) (nsr (fl ff43_0 u tf40 m1 o u (fl ff43_0 u tf40 m0 o u ?_)))
 obtain⟨ah,W,X⟩:=ob hm
 refine lk co78 (ok_laws_eqDocS F o.enter0 H J W) ?_
 rintro ai aj ⟨Y,rfl,q⟩
 have m:=(o.c0 q).t2
 refine lv (rv_not u) (nq (wcc X u (fun aa s=>?_) (fun aa s=>?_)))
 ·refine sr (lv (r_f u) (nq (rr ?_)))
  cases oi s
  exact ey results37 ⟨Y,u,m.s⟩
 refine wc_skip (qs (sr (fl ff43_1 u tf41 m1 m u (fl ff43_1 u tf41 m0 m u ?_))))
 obtain⟨ak,ab,ac⟩:=ob s
 refine lk co79 (ok_laws_eqEntryS F m.enter0 (I.mono q.le) (O.mono q.le) ab) ?_
 rintro al am ⟨y,rfl,ad⟩
 have G:=(m.c0 ad).t2
 refine lv (rv_not u) (nq (wcc ac u (fun ae x=>?_) (fun ae x=>?_)))
 ·refine sr (lv (r_f u) (nq (rr ?_)))
  cases oi x
  exact ey results37 ⟨y,u,G.s⟩
 refine wc_skip (qr (lv (r_t u) (nq (wc_ret ?_))))
 cases oi x
 exact ey results37 ⟨y,u,G.s⟩

theorem ok_laws_eqLive {q0:GLive}{q1:GLive}{r:Bool}(hS:SH w K [] w K [])(R:SliceAt tGDoc K A a b q0.Seg.Docs)(S:SliceAt tGEntry K B c d q0.Seg.Entries)(T:SliceAt tInt K C f i q0.Dead)(U:SliceAt tGDoc K D k l q1.Seg.Docs)(V:SliceAt tGEntry K G m n q1.Seg.Entries)(W:SliceAt tInt K H o p q1.Dead)(hm:M.laws_eqLive F q0 q1=some r):
  Calls prog 12 #[.agg #[V3 A a b,V3 B c d,V3 C f i],.agg #[V3 D k l,V3 G m n,V3 H o p]] w (R_b w K r):=by
 rw [M.laws_eqLive] at hm
 refine ci func12 u ntmps12 (sr (bx u hS fun X al Y=>?_))
 have aa:SH _ _ _ _ _ [obj X [V3 A a b,V3 B c d,V3 C f i] 45]:=Y
 refine bx u aa fun ab am ac=>?_
 have s:SH _ _ _ _ _ [obj ab [V3 D k l,V3 G m n,V3 H o p] 45,_]:=ac
 refine lv (r_f u) (nsr (fa ff45_0 u (lv (rv_loadmS (ds:=[V3 A a b,V3 B c d]) tf43 u m1 s u u) (fa ff45_0 u (lv (rv_loadmS (ds:=[V3 D k l,V3 G m n]) tf43 u m0 s u u) ?_)))))
 obtain⟨an,ad,ae⟩:=ob hm
 refine lk co37 (ok_laws_eqSeg F s.enter0 R S U V ad) ?_
 rintro ao ap ⟨af,rfl,x⟩
 have q:=(s.c0 x).t2
 refine lv (rv_not u) (nq (wcc ae u (fun ag y=>?_) (fun ag y=>?_)))
 ·refine sr (lv (r_f u) (nq (rr ?_)))
  cases oi y
  exact ey results12 ⟨af,u,q.s⟩
 refine wc_skip (qs (sr (fl ff45_1 u tf30 m1 q u (fl ff45_1 u tf30 m0 q u ?_))))
 obtain⟨aq,ah,ai⟩:=ob y
 refine lk co38 (ok_laws_eqIntS F q.enter0 (T.mono x.le) (W.mono x.le) ah) ?_
 rintro ar au ⟨J,rfl,aj⟩
 have O:=(q.c0 aj).t2
 refine lv (rv_not u) (nq (wcc ai u (fun ak I=>?_) (fun ak I=>?_)))
 ·refine sr (lv (r_f u) (nq (rr ?_)))
  cases oi I
  exact ey results12 ⟨J,u,O.s⟩
 refine wc_skip (qr (lv (r_t u) (nq (wc_ret ?_))))
 cases oi I
 exact ey results12 ⟨J,u,O.s⟩

theorem ok_laws_FnExactLivePut {q0:GConf}{q1:GLive}{r:Bool}(hS:SH w K [] w K [])(af:SliceAt tStr K A a b q0.Stops)(ag:SliceAt tGSyn K B c d q0.Syns)(ah:SliceAt tGDoc K C f i q1.Seg.Docs)(ai:SliceAt tGEntry K D k l q1.Seg.Entries)(aj:SliceAt tInt K G m n q1.Dead)(hT:Tab10 w)(hm:M.laws_FnExactLivePut F q0 q1=some r):
  Calls prog 3 #[.agg #[V3 A a b,V3 B c d],.agg #[V3 C f i,V3 D k l,V3 G m n]] w (R_b w K r):=by
 rw [M.laws_FnExactLivePut] at hm
 refine ci func3 u ntmps3 (sr (bx u hS fun aE cd bb=>?_))
 have bc:SH _ _ _ _ _ [obj aE [V3 A a b,V3 B c d] 25]:=bb
 refine bx u bc fun aF ce bd=>?_
 have aG:SH _ _ _ _ _ [obj aF [V3 C f i,V3 D k l,V3 G m n] 32,_]:=bd
 refine lv (r_f u) (nr (lv (rv_assign (v:=V6 1048576) u) (nr (lv (rv_loadmS (ds:=[V3 A a b,V3 B c d]) tf25 u m1 aG u u) (mv u ?_)))))
 obtain⟨cf,be,bf⟩:=ob hm
 refine lk co5 (ok_laws_szConf F aG.enter0 af ag (by decide :rng64 1048576) be) ?_
 rintro cg ch ⟨bg,rfl,o,bh⟩
 have ak:=(aG.c0 o).t2
 refine av u (nsr (mv u (lv (rv_lss u u) (nq (wcc bf u (fun bi aH=>?_) (fun bi aH=>?_))))))
 ·refine sr (lv (r_t u) (nq (rr ?_)))
  cases oi aH
  exact ey results3 ⟨bg,u,ak.s⟩
 refine wc_skip (qr (lv (rv_loadmS (ds:=[V3 C f i,V3 D k l,V3 G m n]) tf32 u m0 ak u u) (mv u ?_)))
 obtain⟨cj,bj,bk⟩:=ob aH
 refine lk co6 (ok_laws_szLive F ak.enter0 (ah.mono o.le) (ai.mono o.le) (aj.mono o.le) bh bj) ?_
 rintro ck cl ⟨aN,rfl,s,cm⟩
 have aO:=(ak.c0 s).t2
 refine av u (nsr (mv u (lv (rv_lss u u) (nq (wcc bk u (fun bl aI=>?_) (fun bl aI=>?_))))))
 ·refine sr (lv (r_t u) (nq (rr ?_)))
  cases oi aI
  exact ey results3 ⟨aN,u,aO.s⟩
 refine wc_skip (qs ?_)
 have U:=aO.drew
 refine j_0 (fun w'=>Holds aN w'∧HasObj aE [V3 A a b,V3 B c d] w'∧HasObj aF [V3 C f i,V3 D k l,V3 G m n] w') 6 [] mixed ⟨U.hasK kr,U.hasObj m1,U.hasObj m0⟩ (jh 0 u (fun _ h=>rh_loadmS (ds:=[V3 A a b,V3 B c d]) tf25 u u u h.2.1) (jh 2 u (fun _ h=>rh_loadmS (ds:=[V3 C f i,V3 D k l,V3 G m n]) tf32 u u u h.2.2) (j1 1 u ?_)))
 obtain⟨cn,bm,bn⟩:=ob aI
 refine lk co8 (ok_laws_toConf F U.enter0 (af.mono (o.le.trans s.le)) (ag.mono (o.le.trans s.le)) bm) ?_
 rintro cp cq ⟨cr,cs,ct,cu,cv,cw,cx,rfl,q,bo,bp⟩
 have V:=(U.c0 q).t4
 refine j_o ⟨V.hasK q.le,V.hasObj m3,V.hasObj m2⟩ (j1 3 u ?_)
 obtain⟨cy,bq,br⟩:=ob bn
 refine lk co9 (ok_laws_toLive F V.enter0 (ah.mono ((o.le.trans s.le).trans q.le)) (ai.mono ((o.le.trans s.le).trans q.le)) (aj.mono ((o.le.trans s.le).trans q.le)) bq) ?_
 rintro cz cA ⟨cB,cC,cD,cE,cF,cG,cH,cI,cJ,cK,rfl,x,bs,bu,bv⟩
 have W:=(V.c0 x).t5
 refine j_o ⟨W.hasK (q.le.trans x.le),W.hasObj m4,W.hasObj m3⟩ (j1 4 u ?_)
 obtain⟨cL,bz,bA⟩:=ob br
 refine lk co7 (ok_spec_LivePut F W.enter0 (bo.mono x.le) (bp.mono x.le) bs bu bv bz) ?_
 rintro cM cN ⟨cO,rfl,y,cP⟩
 have S:=(W.c0 y).t5
 refine j_o ⟨S.hasK ((q.le.trans x.le).trans y.le),S.hasObj m4,S.hasObj m3⟩ (jv 5 u (rv_assign u) (jd (qr (lv (rv_loadmS (ds:=[V3 A a b,V3 B c d]) tf25 u m4 S u u) ?_))))
 obtain⟨cQ,bB,bC⟩:=ob bA
 refine lk co8 (ok_laws_toConf F S.enter0 (SliceAt.mono ((((o.le.trans s.le).trans q.le).trans x.le).trans y.le) af) (SliceAt.mono ((((o.le.trans s.le).trans q.le).trans x.le).trans y.le) ag) bB) ?_
 rintro cR cS ⟨am,an,ao,ap,aq,ar,cT,rfl,O,aP,aQ⟩
 have bD:=(S.c0 O).t7
 refine al tf38 bD fun aR cU bE=>?_
 have bF:SH _ _ _ _ _ [obj aR [V3 none 0 0,V3 none 0 0] 38,_,_,_,_,_,_,_]:=bE
 refine lw [V3 am an ao,V3 ap aq ar] tf38 bF fun cV aJ=>(nr (lv (rv_loadmS (ds:=[V3 C f i,V3 D k l,V3 G m n]) tf32 u m6 aJ u u) ?_))
 obtain⟨cW,bG,bH⟩:=ob bC
 refine lk co9 (ok_laws_toLive F aJ.enter0 (SliceAt.mono (((((o.le.trans s.le).trans q.le).trans x.le).trans y.le).trans O.le) ah) (SliceAt.mono (((((o.le.trans s.le).trans q.le).trans x.le).trans y.le).trans O.le) ai) (SliceAt.mono (((((o.le.trans s.le).trans q.le).trans x.le).trans y.le).trans O.le) aj) bG) ?_
 rintro cX cY ⟨au,aw,ax,ay,az,aA,aB,aC,aD,cZ,rfl,J,aS,aT,aU⟩
 have bI:=(aJ.c0 J).t9
 refine al tf45 bI fun aV da bJ=>?_
 have bK:SH _ _ _ _ _ [obj aV [V3 none 0 0,V3 none 0 0,V3 none 0 0] 45,_,_,_,_,_,_,_,_,_]:=bJ
 refine lw [V3 au aw ax,V3 ay az aA,V3 aB aC aD] tf45 bK fun db X=>(nr (lv (rv_loadmS (ds:=[V3 am an ao,V3 ap aq ar]) tf38 u m2 X u u) (lv (rv_loadmS (ds:=[V3 au aw ax,V3 ay az aA,V3 aB aC aD]) tf45 u m0 X u u) ?_)))
 obtain⟨dc,bL,bM⟩:=ob bH
 refine lk co10 (ok_impl_LivePut F X.enter0 (aP.mono J.le) (aQ.mono J.le) aS aT aU (tab_keep hT X) bL) ?_
 rintro dd de ⟨aW,rfl,H,df⟩
 have aX:=(X.c0 H).t10
 refine av u (nsr (mv u (mv u (lv (rv_sneq u u) (nq (wcc bM u (fun bN aK=>?_) (fun bN aK=>?_)))))))
 ·refine sr (lv (r_f u) (nq (rr ?_)))
  cases oi aK
  exact ey results3 ⟨aW,u,aX.s⟩
 refine wc_skip (qs (wc_seq ?_))
 have Y:=aX.drew
 refine wh1 (fun w'=>Holds aW w'∧HasObj aR [V3 am an ao,V3 ap aq ar] w'∧HasObj aE [V3 A a b,V3 B c d] w') (fun w'=>True) 5 [] mixed ⟨Y.hasK kr,Y.hasObj m2,Y.hasObj m9⟩ (fun _=>trivial) (gh (fun _ h=>rh_loadmS (ds:=[V3 am an ao,V3 ap aq ar]) tf38 u u u h.2.1) (gh (fun _ h=>rh_loadmS (ds:=[V3 A a b,V3 B c d]) tf25 u u u h.2.2) (gn ?_)))
 obtain⟨dg,bO,bP⟩:=ob aK
 refine lk co8 (ok_laws_toConf F Y.enter0 (SliceAt.mono (((((((o.le.trans s.le).trans q.le).trans x.le).trans y.le).trans O.le).trans J.le).trans H.le) af) (SliceAt.mono (((((((o.le.trans s.le).trans q.le).trans x.le).trans y.le).trans O.le).trans J.le).trans H.le) ag) bO) ?_
 rintro dh di ⟨dj,dk,dl,dm,dn,dp,dq,rfl,I,bQ,bR⟩
 have aa:=(Y.c0 I).t12
 refine wl_nil (qh ⟨aa.hasK I.le,aa.hasObj m4,aa.hasObj m11⟩ (fun _=>trivial) (gn ?_))
 obtain⟨dr,bS,bT⟩:=ob bP
 refine lk co11 (ok_laws_eqConf F aa.enter0 (aP.mono ((J.le.trans H.le).trans I.le)) (aQ.mono ((J.le.trans H.le).trans I.le)) bQ bR bS) ?_
 rintro dt du ⟨aY,rfl,R⟩
 have ab:=(aa.c0 R).t12
 refine wl_nil (qh ⟨ab.hasK (I.le.trans R.le),ab.hasObj m4,ab.hasObj m11⟩ (fun _=>trivial) (gt (rv_not u) (gd' (qe_seq (wcc bT u (fun bU aL=>?_) (fun bU aL=>?_))))))
 ·refine sr (lv (r_f u) (nq (rr ?_)))
  cases oi aL
  exact ey results3 ⟨aY,u,ab.s⟩
 refine wc_skip (qs (wc_seq ?_))
 have ac:=ab.drew
 refine wh1 (fun w'=>Holds aY w'∧HasObj aV [V3 au aw ax,V3 ay az aA,V3 aB aC aD] w'∧HasObj aF [V3 C f i,V3 D k l,V3 G m n] w') (fun w'=>True) 5 [] mixed ⟨ac.hasK kr,ac.hasObj m2,ac.hasObj m10⟩ (fun _=>trivial) (gh (fun _ h=>rh_loadmS (ds:=[V3 au aw ax,V3 ay az aA,V3 aB aC aD]) tf45 u u u h.2.1) (gh (fun _ h=>rh_loadmS (ds:=[V3 C f i,V3 D k l,V3 G m n]) tf32 u u u h.2.2) (gn ?_)))
 obtain⟨dv,bV,bW⟩:=ob aL
 refine lk co9 (ok_laws_toLive F ac.enter0 (SliceAt.mono (((((((((o.le.trans s.le).trans q.le).trans x.le).trans y.le).trans O.le).trans J.le).trans H.le).trans I.le).trans R.le) ah) (SliceAt.mono (((((((((o.le.trans s.le).trans q.le).trans x.le).trans y.le).trans O.le).trans J.le).trans H.le).trans I.le).trans R.le) ai) (SliceAt.mono (((((((((o.le.trans s.le).trans q.le).trans x.le).trans y.le).trans O.le).trans J.le).trans H.le).trans I.le).trans R.le) aj) bV) ?_
 rintro dw dx ⟨dy,dz,dA,dB,dC,dD,dE,dF,dG,dH,rfl,T,bX,bY,bZ⟩
 have ad:SH _ _ _ _ _ [_,_,_,_,_,_,_,_,_,_,_,_,_]:=SH.call0 ac T
 refine wl_nil (qh ⟨ad.hasK T.le,ad.hasObj m3,ad.hasObj m11⟩ (fun _=>trivial) (gn ?_))
 obtain⟨dI,ca,cb⟩:=ob bW
 refine lk co12 (ok_laws_eqLive F ad.enter0 (SliceAt.mono (((H.le.trans I.le).trans R.le).trans T.le) aS) (SliceAt.mono (((H.le.trans I.le).trans R.le).trans T.le) aT) (SliceAt.mono (((H.le.trans I.le).trans R.le).trans T.le) aU) bX bY bZ ca) ?_
 rintro dJ dK ⟨aZ,rfl,ba⟩
 have ae:SH _ _ _ _ _ [_,_,_,_,_,_,_,_,_,_,_,_,_]:=SH.call0 ad ba
 refine wl_nil (qh ⟨ae.hasK (T.le.trans ba.le),ae.hasObj m3,ae.hasObj m11⟩ (fun _=>trivial) (gt (rv_not u) (gd' (qe_seq (wcc cb u (fun cc aM=>?_) (fun cc aM=>?_))))))
 ·refine sr (lv (r_f u) (nq (rr ?_)))
  cases oi aM
  exact ey results3 ⟨aZ,u,ae.s⟩
 refine wc_skip (qr (lv (r_t u) (nq (wc_ret ?_))))
 cases oi aM
 exact ey results3 ⟨aZ,u,ae.s⟩
end Go.Proofs.YtpdfkjjmcnhakaaGreatDoor
