/-
 Walks of the functions. Printed by gen.py.
-/
import Derived.Test.YtpjefkdclnmlfaaGreatWalkA3
set_option linter.unusedVariables false
set_option linter.unusedSectionVars false
set_option maxRecDepth 100000
namespace Go.Proofs.YtpjefkdclnmlfaaGreat
set_option maxHeartbeats 4000000
open Go Go.Fk Go.RowKit Tryz
variable (F:Nat){w:World}{K:KMap}{Z:List Nat}{g1 g2 g3:Nat}{A B C D G H I J O R S T:Option Addr}{a b c d f i k l m n o p q s v x y aa ab ac ad ae af ag:Nat}
variable [dr:Dr]

theorem ok_laws_toIntS {q0:List Int}{r:(List Int)}(hS:SH w K [] w K [])(s:SliceAt tInt K A a b q0)(hm:M.laws_toIntS F q0=some r):
  Calls prog 184 #[V3 A a b] w fun e w'=>∃a_1 n_2 c_3 K',e= .returned (V3 a_1 n_2 c_3)∧SH w K [] w' K' [tail (V3 a_1 n_2 c_3) 3 1]∧SliceAt tInt K' a_1 n_2 c_3 r:=by
 rw [M.laws_toIntS] at hm
 refine ci func184 u ntmps184 (sr (lv (r_n u) (nr (mv u (lv (rv_len underlying71 u s) ?_)))))
 obtain⟨H,I,J⟩:=ob hm
 refine wl_make (t:=tInt) wn u underlying71 tf3 u u u I ⟨u,d_0⟩ hS fun k cs9 ao hmx13 hrow11 O=>?_
 obtain⟨m14,hm15⟩: ∃m,m=H.length:=⟨_,u⟩
 rw [←hm15] at hmx13
 rw [←hm15]
 refine av u (nsr (lv (r_0 u) (nq ?_)))
 obtain⟨C,R,S⟩:=ob J
 refine wc_cutg (fun E' w'=>∃cs23 l,E'=[(3,V3 (some ⟨k,0,none⟩) m14 m14)]∧SH w K [] w' l [obj k cs23 3]∧KLe K l∧RowAt true tInt l cs23 C∧m14=C.length) ?_ ?_
 ·refine wc_block ?_
  obtain⟨ap,T,U⟩:=ob R
  refine qw (fun (c:Int×(List Int)) E' w'=>∃cs36 f,E'=[(0,V3 A a b),(3,V3 (some ⟨k,0,none⟩) m14 m14),(4,V6 c.1)]∧SH w K [] w' f [obj k cs36 3]∧KLe K f∧rng64 c.1∧RowAt true tInt f cs36 c.2∧m14=c.2.length) T ⟨cs9,K,u,O,kr,d_0,hrow11,hm15⟩ ?_
  rintro c _ aq ar V W ⟨cs36,f,rfl,x,o,au,hrow37,hm38⟩
  refine wc_seq (sr (mv u (mv u (lv (rv_len underlying71 u (s.mono o)) (lv (rv_lss u u) (nq (wcc V u (fun X y=>?_) (fun X y=>?_))))))))
  ·refine wc_skip (qs (wc_block (wc_region (mv u (mv u (mv u (mv u ?_)))))))
   obtain⟨q,Y,aa⟩:=ob y
   refine li underlying71 tf3 (s.mono o) Y fun ab ac aw ad ae=>?_
   obtain⟨rfl,af⟩:=ad
   have ag:AtK _ ab ac [V6 q]:=ae
   refine lv (rv_load1 tf3 u x (ag 0 _ u)) ?_
   obtain⟨ah,B,ai⟩:=ob aa
   obtain⟨ax,aj,ak⟩:=RowAt.at hrow37 B
   obtain⟨rfl,ay⟩:=aj
   have az: ∀(j:Nat) (d:Value),[V6 ah][j]? =some d→cs36[c.1.toNat*tInt.size+j]? =some d:=ak
   refine lv (rv_indexRow (t:=tInt) underlying71 tf3 u u hm38 B) (wl_storeRow (t:=tInt) (v:=V6 q) (e:=q) wn tf3 u u ⟨u,af⟩ x hrow37 B fun cs62 aA hrow64 al=>?_)
   have hm66:=hm38.trans (List.length_set (i:=c.1.toNat) (a:=q)).symm
   refine nb (qe_seq (wc_region (mv u (lv (rv_add u u) (av u (wl_nil ?_))))))
   cases oi ai
   exact qd ⟨_,u,cs62,f,u,al,o,(w64_rng _),hrow64,hm66⟩
  refine wc_exit (qe_then_exit (qe_then_exit ?_))
  cases oi y
  cases W _ u
  refine qe_block_eq ?_
  cases oi U
  exact qd ⟨cs36,f,u,x,o,hrow37,hm38⟩
 rintro _ aB ⟨cs23,l,rfl,am,aC,hrow24,hm25⟩
 refine qr (mv u (av u (nq (wc_ret ?_))))
 obtain⟨an,aD,D,G⟩:=SH.freeze am hrow24 (row_max hm25 hmx13)
 rw [←hm25] at D G
 cases oi S
 exact ey results184 ⟨(some ⟨k,0,none⟩),m14,m14,an,u,G,D⟩

theorem ok_laws_toPost {q0:GPost}{r:GPost}(hS:SH w K [] w K [])(o:rng64 q0.Doc)(q:SliceAt tInt K A a b q0.At)(hm:M.laws_toPost F q0=some r):
  Calls prog 245 #[.agg #[V6 q0.Doc,V3 A a b]] w fun e w'=>∃a_2 n_3 c_4 K',e= .returned (.agg #[V6 r.Doc,V3 a_2 n_3 c_4])∧SH w K [] w' K' [tail (V3 a_2 n_3 c_4) 3 1]∧rng64 r.Doc∧SliceAt tInt K' a_2 n_3 c_4 r.At:=by
 rw [M.laws_toPost] at hm
 refine ci func245 u ntmps245 (sr (bx u hS fun s T v=>?_))
 have x:SH _ _ _ _ _ [obj s [V6 q0.Doc,V3 A a b] 268]:=v
 refine al tf134 x fun y U B=>?_
 have C:SH _ _ _ _ _ [obj y [V6 0,V3 none 0 0] 134,_]:=B
 refine nr (al tf134 C fun D V G=>?_)
 have k:SH _ _ _ _ _ [obj D [V6 0,V3 none 0 0] 134,_,_]:=G
 refine nr (fl ff268_0 u tf3 m2 k u (fa ff134_0 u (ls [V6 q0.Doc,V3 none 0 0] (V6 q0.Doc) tf3 k fun W i=>(nr (fl ff268_1 u tf71 m2 i u ?_)))))
 obtain⟨X,H,I⟩:=ob hm
 refine lk co184 (ok_laws_toIntS F i.enter0 q H) ?_
 rintro Y aa ⟨c,d,f,J,rfl,O,R⟩
 have S:=(i.c0 O).t4
 refine fa ff134_1 u (ls [V6 q0.Doc,V3 c d f] (V3 c d f) tf71 S.f1 fun ab l=>(nr (lv (rv_loadmS (ds:=[V6 q0.Doc,V3 c d f]) tf134 u m0 l u u) (lw [V6 q0.Doc,V3 c d f] tf134 l.f2 fun ac m=>(nq (wc_ret ?_))))))
 cases oi I
 exact ez results245 tf134 m m0 ⟨c,d,f,J,u,m.s,o,R⟩

theorem ok_laws_toPostS {q0:List GPost}{r:(List GPost)}(hS:SH w K [] w K [])(x:SliceAt tGPost K A a b q0)(hm:M.laws_toPostS F q0=some r):
  Calls prog 216 #[V3 A a b] w fun e w'=>∃a_1 n_2 c_3 K',e= .returned (V3 a_1 n_2 c_3)∧SH w K [] w' K' [tail (V3 a_1 n_2 c_3) 134 2]∧SliceAt tGPost K' a_1 n_2 c_3 r:=by
 rw [M.laws_toPostS] at hm
 refine ci func216 u ntmps216 (sr (lv (r_n u) (nr (mv u (lv (rv_len underlying199 u x) ?_)))))
 obtain⟨R,S,T⟩:=ob hm
 refine wl_make (t:=tGPost) wn u underlying61 tf134 u u u S ⟨none,0,0,u,d_0,(SliceAt.nil _ _)⟩ hS fun f cs9 aJ hmx13 hrow11 U=>?_
 obtain⟨m14,hm15⟩: ∃m,m=R.length:=⟨_,u⟩
 rw [←hm15] at hmx13
 rw [←hm15]
 refine av u (nsr (lv (r_0 u) (nq ?_)))
 obtain⟨D,V,W⟩:=ob T
 refine wc_cutg (fun E' w'=>∃cs23 l,E'=[(3,V3 (some ⟨f,0,none⟩) m14 m14)]∧SH w K [] w' l [obj f cs23 134]∧KLe K l∧RowAt true tGPost l cs23 D∧m14=D.length) ?_ ?_
 ·refine wc_block ?_
  obtain⟨aK,X,Y⟩:=ob V
  refine qw (fun (c:Int×(List GPost)) E' w'=>∃cs36 k,E'=[(0,V3 A a b),(3,V3 (some ⟨f,0,none⟩) m14 m14),(4,V6 c.1)]∧SH w K [] w' k [obj f cs36 134]∧KLe K k∧rng64 c.1∧RowAt true tGPost k cs36 c.2∧m14=c.2.length) X ⟨cs9,K,u,U,kr,d_0,hrow11,hm15⟩ ?_
  rintro c _ aL aM aa ab ⟨cs36,k,rfl,o,q,aN,hrow37,hm38⟩
  refine wc_seq (sr (mv u (mv u (lv (rv_len underlying199 u (x.mono q)) (lv (rv_lss u u) (nq (wcc aa u (fun ac y=>?_) (fun ac y=>?_))))))))
  ·refine wc_skip (qs (wc_block (wc_region (mv u (mv u (mv u (mv u ?_)))))))
   obtain⟨ad,ae,af⟩:=ob y
   refine li underlying199 tf268 (x.mono q) ae fun ag ah aO ai aj=>?_
   obtain⟨ak,al,am,rfl,an,ao⟩:=ai
   have ap:AtK _ ag ah [V6 ad.Doc,V3 ak al am]:=aj
   refine lv (rv_loadS tf268 u o ap u) ?_
   obtain⟨B,aq,ar⟩:=ob af
   refine lk co245 (ok_laws_toPost F o.enter0 an ao aq) ?_
   rintro aP aQ ⟨G,H,I,au,rfl,s,aw,ax⟩
   have ay:=(o.c0 s).t2
   obtain⟨az,C,aA⟩:=ob ar
   obtain⟨aR,aB,aC⟩:=RowAt.at (RowAt.mono s.le hrow37) C
   obtain⟨aD,aE,aF,rfl,aS,aT⟩:=aB
   have aU: ∀(j:Nat) (d:Value),[V6 az.Doc,V3 aD aE aF][j]? =some d→cs36[c.1.toNat*tGPost.size+j]? =some d:=aC
   refine lv (rv_indexRow (t:=tGPost) underlying61 tf134 u u hm38 C) (wl_storeRow (t:=tGPost) (v:=.agg #[V6 B.Doc,V3 G H I]) (e:=B) wn tf134 u u ⟨G,H,I,u,aw,ax⟩ ay.f1 (RowAt.mono s.le hrow37) C fun cs84 aV hrow86 aG=>?_)
   have hm88:=hm38.trans (List.length_set (i:=c.1.toNat) (a:=B)).symm
   refine nb (qe_seq (wc_region (mv u (lv (rv_add u u) (av u (wl_nil ?_))))))
   cases oi aA
   exact qd ⟨_,u,cs84,au,u,aG.s,(q.trans s.le),(w64_rng _),hrow86,hm88⟩
  refine wc_exit (qe_then_exit (qe_then_exit ?_))
  cases oi y
  cases ab _ u
  refine qe_block_eq ?_
  cases oi Y
  exact qd ⟨cs36,k,u,o,q,hrow37,hm38⟩
 rintro _ aW ⟨cs23,l,rfl,aH,aX,hrow24,hm25⟩
 refine qr (mv u (av u (nq (wc_ret ?_))))
 obtain⟨aI,aY,J,O⟩:=SH.freeze aH hrow24 (row_max hm25 hmx13)
 rw [←hm25] at J O
 cases oi W
 exact ey results216 ⟨(some ⟨f,0,none⟩),m14,m14,aI,u,O,J⟩

theorem ok_laws_toEntry {q0:GEntry}{r:GEntry}(hS:SH w K [] w K [])(q:q0.Field.length≤maxLen)(s:q0.Term.length≤maxLen)(v:SliceAt tGPost K A a b q0.Posts)(hm:M.laws_toEntry F q0=some r):
  Calls prog 163 #[.agg #[sv q0.Field,sv q0.Term,V3 A a b]] w fun e w'=>∃a_3 n_4 c_5 K',e= .returned (.agg #[sv r.Field,sv r.Term,V3 a_3 n_4 c_5])∧SH w K [] w' K' [tail (V3 a_3 n_4 c_5) 134 2]∧r.Field.length≤maxLen∧r.Term.length≤maxLen∧SliceAt tGPost K' a_3 n_4 c_5 r.Posts:=by
 rw [M.laws_toEntry] at hm
 refine ci func163 u ntmps163 (sr (bx u hS fun x V y=>?_))
 have B:SH _ _ _ _ _ [obj x [sv q0.Field,sv q0.Term,V3 A a b] 201]:=y
 refine al tf116 B fun C W D=>?_
 have G:SH _ _ _ _ _ [obj C [sv [],sv [],V3 none 0 0] 116,_]:=D
 refine nr (al tf116 G fun H X I=>?_)
 have k:SH _ _ _ _ _ [obj H [sv [],sv [],V3 none 0 0] 116,_,_]:=I
 refine nr (fl ff201_0 u tf9 m2 k u (fa ff116_0 u (ls [sv q0.Field,sv [],V3 none 0 0] (sv q0.Field) tf9 k fun Y l=>(nr (fl ff201_1 u tf9 m2 l u (fa ff116_1 u (ls [sv q0.Field,sv q0.Term,V3 none 0 0] (sv q0.Term) tf9 l fun aa i=>(nr (fl ff201_2 u tf199 m2 i u ?_)))))))))
 obtain⟨ab,J,O⟩:=ob hm
 refine lk co216 (ok_laws_toPostS F i.enter0 v J) ?_
 rintro ac ad ⟨c,d,f,R,rfl,S,T⟩
 have U:=(i.c0 S).t4
 refine fa ff116_2 u (ls [sv q0.Field,sv q0.Term,V3 c d f] (V3 c d f) tf61 U.f1 fun ae m=>(nr (lv (rv_loadmS (ds:=[sv q0.Field,sv q0.Term,V3 c d f]) tf116 u m0 m u u) (lw [sv q0.Field,sv q0.Term,V3 c d f] tf116 m.f2 fun af o=>(nq (wc_ret ?_))))))
 cases oi O
 exact ez results163 tf116 o m0 ⟨c,d,f,R,u,o.s,q,s,T⟩

theorem ok_laws_toEntryS {q0:List GEntry}{r:(List GEntry)}(hS:SH w K [] w K [])(y:SliceAt tGEntry K A a b q0)(hm:M.laws_toEntryS F q0=some r):
  Calls prog 93 #[V3 A a b] w fun e w'=>∃a_1 n_2 c_3 K',e= .returned (V3 a_1 n_2 c_3)∧SH w K [] w' K' [tail (V3 a_1 n_2 c_3) 116 3]∧SliceAt tGEntry K' a_1 n_2 c_3 r:=by
 rw [M.laws_toEntryS] at hm
 refine ci func93 u ntmps93 (sr (lv (r_n u) (nr (mv u (lv (rv_len underlying57 u y) ?_)))))
 obtain⟨T,U,V⟩:=ob hm
 refine wl_make (t:=tGEntry) wn u underlying44 tf116 u u u U ⟨none,0,0,u,(by decide :([]:Str).length≤maxLen),(by decide :([]:Str).length≤maxLen),(SliceAt.nil _ _)⟩ hS fun f cs9 aL hmx13 hrow11 W=>?_
 obtain⟨m14,hm15⟩: ∃m,m=T.length:=⟨_,u⟩
 rw [←hm15] at hmx13
 rw [←hm15]
 refine av u (nsr (lv (r_0 u) (nq ?_)))
 obtain⟨D,X,Y⟩:=ob V
 refine wc_cutg (fun E' w'=>∃cs23 l,E'=[(3,V3 (some ⟨f,0,none⟩) m14 m14)]∧SH w K [] w' l [obj f cs23 116]∧KLe K l∧RowAt true tGEntry l cs23 D∧m14=D.length) ?_ ?_
 ·refine wc_block ?_
  obtain⟨aM,aa,ab⟩:=ob X
  refine qw (fun (c:Int×(List GEntry)) E' w'=>∃cs36 k,E'=[(0,V3 A a b),(3,V3 (some ⟨f,0,none⟩) m14 m14),(4,V6 c.1)]∧SH w K [] w' k [obj f cs36 116]∧KLe K k∧rng64 c.1∧RowAt true tGEntry k cs36 c.2∧m14=c.2.length) aa ⟨cs9,K,u,W,kr,d_0,hrow11,hm15⟩ ?_
  rintro c _ aN aO ac ad ⟨cs36,k,rfl,o,q,aP,hrow37,hm38⟩
  refine wc_seq (sr (mv u (mv u (lv (rv_len underlying57 u (y.mono q)) (lv (rv_lss u u) (nq (wcc ac u (fun ae B=>?_) (fun ae B=>?_))))))))
  ·refine wc_skip (qs (wc_block (wc_region (mv u (mv u (mv u (mv u ?_)))))))
   obtain⟨G,af,ag⟩:=ob B
   refine li underlying57 tf201 (y.mono q) af fun ah ai aQ aj ak=>?_
   obtain⟨al,am,an,rfl,ao,ap,aq⟩:=aj
   have ar:AtK _ ah ai [sv G.Field,sv G.Term,V3 al am an]:=ak
   refine lv (rv_loadS tf201 u o ar u) ?_
   obtain⟨s,au,aw⟩:=ob ag
   refine lk co163 (ok_laws_toEntry F o.enter0 ao ap aq au) ?_
   rintro aR aS ⟨H,I,J,ax,rfl,x,ay,az,aA⟩
   have aB:=(o.c0 x).t2
   obtain⟨O,C,aC⟩:=ob aw
   obtain⟨aT,aD,aE⟩:=RowAt.at (RowAt.mono x.le hrow37) C
   obtain⟨aF,aG,aH,rfl,aU,aV,aW⟩:=aD
   have aX: ∀(j:Nat) (d:Value),[sv O.Field,sv O.Term,V3 aF aG aH][j]? =some d→cs36[c.1.toNat*tGEntry.size+j]? =some d:=aE
   refine lv (rv_indexRow (t:=tGEntry) underlying44 tf116 u u hm38 C) (wl_storeRow (t:=tGEntry) (v:=.agg #[sv s.Field,sv s.Term,V3 H I J]) (e:=s) wn tf116 u u ⟨H,I,J,u,ay,az,aA⟩ aB.f1 (RowAt.mono x.le hrow37) C fun cs87 aY hrow89 aI=>?_)
   have hm91:=hm38.trans (List.length_set (i:=c.1.toNat) (a:=s)).symm
   refine nb (qe_seq (wc_region (mv u (lv (rv_add u u) (av u (wl_nil ?_))))))
   cases oi aC
   exact qd ⟨_,u,cs87,ax,u,aI.s,(q.trans x.le),(w64_rng _),hrow89,hm91⟩
  refine wc_exit (qe_then_exit (qe_then_exit ?_))
  cases oi B
  cases ad _ u
  refine qe_block_eq ?_
  cases oi ab
  exact qd ⟨cs36,k,u,o,q,hrow37,hm38⟩
 rintro _ aZ ⟨cs23,l,rfl,aJ,ba,hrow24,hm25⟩
 refine qr (mv u (av u (nq (wc_ret ?_))))
 obtain⟨aK,bb,R,S⟩:=SH.freeze aJ hrow24 (row_max hm25 hmx13)
 rw [←hm25] at R S
 cases oi Y
 exact ey results93 ⟨(some ⟨f,0,none⟩),m14,m14,aK,u,S,R⟩

theorem ok_laws_toSeg {q0:GSeg}{r:GSeg}(hS:SH w K [] w K [])(D:SliceAt tGDoc K A a b q0.Docs)(G:SliceAt tGEntry K B c d q0.Entries)(hm:M.laws_toSeg F q0=some r):
  Calls prog 31 #[.agg #[V3 A a b,V3 B c d]] w fun e w'=>∃a_1 n_2 c_3 a_5 n_6 c_7 K',e= .returned (.agg #[V3 a_1 n_2 c_3,V3 a_5 n_6 c_7])∧SH w K [] w' K' [tail (V3 a_1 n_2 c_3) 77 3,tail (V3 a_5 n_6 c_7) 116 3]∧SliceAt tGDoc K' a_1 n_2 c_3 r.Docs∧SliceAt tGEntry K' a_5 n_6 c_7 r.Entries:=by
 rw [M.laws_toSeg] at hm
 refine ci func31 u ntmps31 (sr (bx u hS fun H af I=>?_))
 have J:SH _ _ _ _ _ [obj H [V3 A a b,V3 B c d] 59]:=I
 refine al tf46 J fun O ag R=>?_
 have S:SH _ _ _ _ _ [obj O [V3 none 0 0,V3 none 0 0] 46,_]:=R
 refine nr (al tf46 S fun T ah U=>?_)
 have q:SH _ _ _ _ _ [obj T [V3 none 0 0,V3 none 0 0] 46,_,_]:=U
 refine nr (fl ff59_0 u tf40 m2 q u ?_)
 obtain⟨ai,V,W⟩:=ob hm
 refine lk co20 (ok_laws_toDocS F q.enter0 D V) ?_
 rintro aj ak ⟨f,i,k,am,rfl,v,X⟩
 have Y:=(q.c0 v).t4
 refine fa ff46_0 u (ls [V3 f i k,V3 none 0 0] (V3 f i k) tf43 Y.f1 fun an s=>(nr (fl ff59_1 u tf57 m3 s u ?_)))
 obtain⟨ao,aa,ab⟩:=ob W
 refine lk co93 (ok_laws_toEntryS F s.enter0 (G.mono v.le) aa) ?_
 rintro ap aq ⟨l,m,o,ac,rfl,x,ad⟩
 have ae:=(s.c0 x).t5
 refine fa ff46_1 u (ls [V3 f i k,V3 l m o] (V3 l m o) tf44 ae.f1 fun ar y=>(nr (lv (rv_loadmS (ds:=[V3 f i k,V3 l m o]) tf46 u m0 y u u) (lw [V3 f i k,V3 l m o] tf46 y.f3 fun au C=>(nq (wc_ret ?_))))))
 cases oi ab
 exact ez results31 tf46 C m0 ⟨f,i,k,l,m,o,ac,u,C.f2.f3.s,(X.mono x.le),ad⟩

theorem ok_laws_toLive {q0:GLive}{r:GLive}(hS:SH w K [] w K [])(R:SliceAt tGDoc K A a b q0.Seg.Docs)(S:SliceAt tGEntry K B c d q0.Seg.Entries)(T:SliceAt tInt K C f i q0.Dead)(hm:M.laws_toLive F q0=some r):
  Calls prog 121 #[.agg #[V3 A a b,V3 B c d,V3 C f i]] w fun e w'=>∃a_1 n_2 c_3 a_5 n_6 c_7 a_9 n_10 c_11 K',e= .returned (.agg #[V3 a_1 n_2 c_3,V3 a_5 n_6 c_7,V3 a_9 n_10 c_11])∧SH w K [] w' K' [tail (V3 a_9 n_10 c_11) 3 1]∧SliceAt tGDoc K' a_1 n_2 c_3 r.Seg.Docs∧SliceAt tGEntry K' a_5 n_6 c_7 r.Seg.Entries∧SliceAt tInt K' a_9 n_10 c_11 r.Dead:=by
 rw [M.laws_toLive] at hm
 refine ci func121 u ntmps121 (sr (bx u hS fun U ao V=>?_))
 have W:SH _ _ _ _ _ [obj U [V3 A a b,V3 B c d,V3 C f i] 153]:=V
 refine al tf73 W fun X ap Y=>?_
 have aa:SH _ _ _ _ _ [obj X [V3 none 0 0,V3 none 0 0,V3 none 0 0] 73,_]:=Y
 refine nr (al tf73 aa fun ab aq ac=>?_)
 have D:SH _ _ _ _ _ [obj ab [V3 none 0 0,V3 none 0 0,V3 none 0 0] 73,_,_]:=ac
 refine nr (fa ff153_0 u (lv (rv_loadmS (ds:=[V3 A a b,V3 B c d]) tf59 u m2 D u u) ?_))
 obtain⟨ar,ad,ae⟩:=ob hm
 refine lk co31 (ok_laws_toSeg F D.enter0 R S ad) ?_
 rintro au aw ⟨k,l,m,o,q,s,ax,rfl,I,af,ag⟩
 have ah:=(D.c0 I).t5
 refine fa ff73_0 u (ls [V3 k l m,V3 o q s,V3 none 0 0] (.agg #[V3 k l m,V3 o q s]) tf46 ah.f2 fun ay G=>(nr (fl ff153_1 u tf71 m4 G u ?_)))
 obtain⟨az,ai,aj⟩:=ob ae
 refine lk co184 (ok_laws_toIntS F G.enter0 (T.mono I.le) ai) ?_
 rintro aA aB ⟨v,x,y,ak,rfl,H,am⟩
 have an:=(G.c0 H).t6
 refine fa ff73_1 u (ls [V3 k l m,V3 o q s,V3 v x y] (V3 v x y) tf71 an.f1 fun aC J=>(nr (lv (rv_loadmS (ds:=[V3 k l m,V3 o q s,V3 v x y]) tf73 u m0 J u u) (lw [V3 k l m,V3 o q s,V3 v x y] tf73 J.f4 fun aD O=>(nq (wc_ret ?_))))))
 cases oi aj
 exact ez results121 tf73 O m0 ⟨k,l,m,o,q,s,v,x,y,ak,u,O.s,(af.mono H.le),(ag.mono H.le),am⟩

theorem ok_laws_toLiveS {q0:List GLive}{r:(List GLive)}(hS:SH w K [] w K [])(x:SliceAt tGLive K A a b q0)(hm:M.laws_toLiveS F q0=some r):
  Calls prog 58 #[V3 A a b] w fun e w'=>∃a_1 n_2 c_3 K',e= .returned (V3 a_1 n_2 c_3)∧SH w K [] w' K' [tail (V3 a_1 n_2 c_3) 73 3]∧SliceAt tGLive K' a_1 n_2 c_3 r:=by
 rw [M.laws_toLiveS] at hm
 refine ci func58 u ntmps58 (sr (lv (r_n u) (nr (mv u (lv (rv_len underlying26 u x) ?_)))))
 obtain⟨X,Y,h7⟩:=ob hm
 refine wl_make (t:=tGLive) wn u underlying34 tf73 u u u Y ⟨none,0,0,none,0,0,none,0,0,u,(SliceAt.nil _ _),(SliceAt.nil _ _),(SliceAt.nil _ _)⟩ hS fun f cs9 bb hmx13 hrow11 ab=>?_
 obtain⟨m14,hm15⟩: ∃m,m=X.length:=⟨_,u⟩
 rw [←hm15] at hmx13
 rw [←hm15]
 refine av u (nsr (lv (r_0 u) (nq ?_)))
 obtain⟨C,ac,ad⟩:=ob h7
 refine wc_cutg (fun E' w'=>∃cs23 l,E'=[(3,V3 (some ⟨f,0,none⟩) m14 m14)]∧SH w K [] w' l [obj f cs23 73]∧KLe K l∧RowAt true tGLive l cs23 C∧m14=C.length) ?_ ?_
 ·refine wc_block ?_
  obtain⟨bc,ae,af⟩:=ob ac
  refine qw (fun (c:Int×(List GLive)) E' w'=>∃cs36 k,E'=[(0,V3 A a b),(3,V3 (some ⟨f,0,none⟩) m14 m14),(4,V6 c.1)]∧SH w K [] w' k [obj f cs36 73]∧KLe K k∧rng64 c.1∧RowAt true tGLive k cs36 c.2∧m14=c.2.length) ae ⟨cs9,K,u,ab,kr,d_0,hrow11,hm15⟩ ?_
  rintro c _ bd be ag ah ⟨cs36,k,rfl,o,q,bf,hrow37,hm38⟩
  refine wc_seq (sr (mv u (mv u (lv (rv_len underlying26 u (x.mono q)) (lv (rv_lss u u) (nq (wcc ag u (fun ai y=>?_) (fun ai y=>?_))))))))
  ·refine wc_skip (qs (wc_block (wc_region (mv u (mv u (mv u (mv u ?_)))))))
   obtain⟨bg,aj,ak⟩:=ob y
   refine li underlying26 tf153 (x.mono q) aj fun al am bh an ao=>?_
   obtain⟨ap,aq,ar,au,aw,ax,ay,az,aA,rfl,aB,aC,aD⟩:=an
   have aE:AtK _ al am [V3 ap aq ar,V3 au aw ax,V3 ay az aA]:=ao
   refine lv (rv_loadS tf153 u o aE u) ?_
   obtain⟨D,aF,aG⟩:=ob ak
   refine lk co121 (ok_laws_toLive F o.enter0 aB aC aD aF) ?_
   rintro bi bj ⟨G,H,I,J,O,R,S,T,U,aH,rfl,s,aI,aJ,aK⟩
   have aL:=(o.c0 s).t2
   obtain⟨bk,B,aM⟩:=ob aG
   obtain⟨bl,aN,aO⟩:=RowAt.at (RowAt.mono s.le hrow37) B
   obtain⟨aP,aQ,aR,aS,aT,aU,aV,aW,aX,rfl,bm,bn,bo⟩:=aN
   have bp: ∀(j:Nat) (d:Value),[V3 aP aQ aR,V3 aS aT aU,V3 aV aW aX][j]? =some d→cs36[c.1.toNat*tGLive.size+j]? =some d:=aO
   refine lv (rv_indexRow (t:=tGLive) underlying34 tf73 u u hm38 B) (wl_storeRow (t:=tGLive) (v:=.agg #[V3 G H I,V3 J O R,V3 S T U]) (e:=D) wn tf73 u u ⟨G,H,I,J,O,R,S,T,U,u,aI,aJ,aK⟩ aL.f1 (RowAt.mono s.le hrow37) B fun cs105 bq hrow107 aY=>?_)
   have hm109:=hm38.trans (List.length_set (i:=c.1.toNat) (a:=D)).symm
   refine nb (qe_seq (wc_region (mv u (lv (rv_add u u) (av u (wl_nil ?_))))))
   cases oi aM
   exact qd ⟨_,u,cs105,aH,u,aY.s,(q.trans s.le),(w64_rng _),hrow107,hm109⟩
  refine wc_exit (qe_then_exit (qe_then_exit ?_))
  cases oi y
  cases ah _ u
  refine qe_block_eq ?_
  cases oi af
  exact qd ⟨cs36,k,u,o,q,hrow37,hm38⟩
 rintro _ br ⟨cs23,l,rfl,aZ,bs,hrow24,hm25⟩
 refine qr (mv u (av u (nq (wc_ret ?_))))
 obtain⟨ba,bu,V,W⟩:=SH.freeze aZ hrow24 (row_max hm25 hmx13)
 rw [←hm25] at V W
 cases oi ad
 exact ey results58 ⟨(some ⟨f,0,none⟩),m14,m14,ba,u,W,V⟩

theorem ok_laws_toIndex {q0:GIndex}{r:GIndex}(hS:SH w K [] w K [])(R:SliceAt tStr K A a b q0.Conf.Stops)(S:SliceAt tGSyn K B c d q0.Conf.Syns)(T:SliceAt tGLive K C f i q0.Segs)(hm:M.laws_toIndex F q0=some r):
  Calls prog 13 #[.agg #[V3 A a b,V3 B c d,V3 C f i]] w fun e w'=>∃a_1 n_2 c_3 a_5 n_6 c_7 a_9 n_10 c_11 K',e= .returned (.agg #[V3 a_1 n_2 c_3,V3 a_5 n_6 c_7,V3 a_9 n_10 c_11])∧SH w K [] w' K' [tail (V3 a_9 n_10 c_11) 73 3]∧SliceAt tStr K' a_1 n_2 c_3 r.Conf.Stops∧SliceAt tGSyn K' a_5 n_6 c_7 r.Conf.Syns∧SliceAt tGLive K' a_9 n_10 c_11 r.Segs:=by
 rw [M.laws_toIndex] at hm
 refine ci func13 u ntmps13 (sr (bx u hS fun U ao V=>?_))
 have W:SH _ _ _ _ _ [obj U [V3 A a b,V3 B c d,V3 C f i] 28]:=V
 refine al tf36 W fun X ap Y=>?_
 have aa:SH _ _ _ _ _ [obj X [V3 none 0 0,V3 none 0 0,V3 none 0 0] 36,_]:=Y
 refine nr (al tf36 aa fun ab aq ac=>?_)
 have D:SH _ _ _ _ _ [obj ab [V3 none 0 0,V3 none 0 0,V3 none 0 0] 36,_,_]:=ac
 refine nr (fa ff28_0 u (lv (rv_loadmS (ds:=[V3 A a b,V3 B c d]) tf25 u m2 D u u) ?_))
 obtain⟨ar,ad,ae⟩:=ob hm
 refine lk co19 (ok_laws_toConf F D.enter0 R S ad) ?_
 rintro au aw ⟨k,l,m,o,q,s,ax,rfl,I,af,ag⟩
 have ah:=(D.c0 I).t5
 refine fa ff36_0 u (ls [V3 k l m,V3 o q s,V3 none 0 0] (.agg #[V3 k l m,V3 o q s]) tf33 ah.f2 fun ay G=>(nr (fl ff28_1 u tf26 m4 G u ?_)))
 obtain⟨az,ai,aj⟩:=ob ae
 refine lk co58 (ok_laws_toLiveS F G.enter0 (T.mono I.le) ai) ?_
 rintro aA aB ⟨v,x,y,ak,rfl,H,am⟩
 have an:=(G.c0 H).t6
 refine fa ff36_1 u (ls [V3 k l m,V3 o q s,V3 v x y] (V3 v x y) tf34 an.f1 fun aC J=>(nr (lv (rv_loadmS (ds:=[V3 k l m,V3 o q s,V3 v x y]) tf36 u m0 J u u) (lw [V3 k l m,V3 o q s,V3 v x y] tf36 J.f4 fun aD O=>(nq (wc_ret ?_))))))
 cases oi aj
 exact ez results13 tf36 O m0 ⟨k,l,m,o,q,s,v,x,y,ak,u,O.s,(af.mono H.le),(ag.mono H.le),am⟩

theorem ok_impl_within {q0:Int}{q1:Int}{q2:Int}{r:Bool}(hS:SH w K [] w K [])(c:rng64 q0)(d:rng64 q1)(f:rng64 q2)(hm:M.impl_within F q0 q1 q2=some r):
  Calls prog 108 #[V6 q0,V6 q1,V6 q2] w (R_b w K r):=by
 rw [M.impl_within] at hm
 refine ci func108 u ntmps108 (sr (lv (r_f u) (nr (mv u (mv u (lv (rv_geq u u) (mv u (bt hm (fun a b=>?_) (fun a b=>?_)))))))))
 ·refine lg a (rv_move u) (lg a (rv_move u) (lg a (rv_leq u u) (lv (rv_pick_t u a u) (av u (nq (wc_ret ?_))))))
  cases oi b
  exact ey results108 ⟨K,u,hS⟩
 refine lu a (lu a (lu a (lv (p_f u a u) (av u (nq (wc_ret ?_))))))
 cases oi b
 exact ey results108 ⟨K,u,hS⟩

theorem ok_impl_wordByte {q0:UInt8}{r:Bool}(hS:SH w K [] w K [])(hm:M.impl_wordByte F q0=some r):
  Calls prog 185 #[iv8 q0] w (R_b w K r):=by
 rw [M.impl_wordByte] at hm
 refine ci func185 u ntmps185 (sr (lv (r_f u) (nr (mv u (lv (rv_bge (b:=(97:UInt8)) u u) (mv u (bt hm (fun c i=>?_) (fun c i=>?_))))))))
 ·refine lg c (rv_move u) (lg c (rv_ble (b:=(122:UInt8)) u u) (lv (rv_pick_t u c u) (mv u (bt i (fun a k=>?_) (fun a k=>?_)))))
  ·refine lu a (lu a (lu a (wl_un (uu u u) u (wl_un (uu u u) u (lu a (lv (p_t u a u) (av u (nq (wc_ret ?_)))))))))
   cases oi k
   exact ey results185 ⟨K,u,hS⟩
  refine lg a (rv_move u) (lg a (rv_bge (b:=(48:UInt8)) u u) (lg a (rv_move u) (bt k (fun d l=>?_) (fun d l=>?_))))
  ·refine lg d (rv_move u) (lg d (rv_ble (b:=(57:UInt8)) u u) (lg a (rv_pick_t u d u) (lv (rv_pick_f u a u) (av u (nq (wc_ret ?_))))))
   cases oi l
   exact ey results185 ⟨K,u,hS⟩
  refine lu d (lu d (lg a (p_f u d u) (lv (rv_pick_f u a u) (av u (nq (wc_ret ?_))))))
  cases oi l
  exact ey results185 ⟨K,u,hS⟩
 refine lu c (lu c (lv (p_f u c u) (mv u (lg u (rv_move u) (lg u (rv_bge (b:=(48:UInt8)) u u) (lg u (rv_move u) (bt i (fun f m=>?_) (fun f m=>?_))))))))
 ·refine lg f (rv_move u) (lg f (rv_ble (b:=(57:UInt8)) u u) (lg u (rv_pick_t u f u) (lv (rv_pick_f u u u) (av u (nq (wc_ret ?_))))))
  cases oi m
  exact ey results185 ⟨K,u,hS⟩
 refine lu f (lu f (lg u (p_f u f u) (lv (rv_pick_f u u u) (av u (nq (wc_ret ?_))))))
 cases oi m
 exact ey results185 ⟨K,u,hS⟩

theorem ok_impl_WordOk {q0:Str}{r:Bool}(hS:SH w K [] w K [])(f:q0.length≤maxLen)(hm:M.impl_WordOk F q0=some r):
  Calls prog 123 #[sv q0] w (R_b w K r):=by
 rw [M.impl_WordOk] at hm
 refine ci func123 u ntmps123 (sr (lv (r_f u) (nsr (mv u (lv (rv_slen underlying9 u) (lv (r_m u) (nq ?_)))))))
 obtain⟨y,A,a⟩:=ob hm
 refine wc_cutg (IE y w K [] K [(0,sv q0)] []) ?_ ?_
 ·refine wc_block ?_
  obtain⟨Y,B,i⟩:=ob A
  refine qf (fun (k:Nat) (l:Unit)=>IV w K [] K [(0,sv q0),(5,V6 (q0.length:Int)),(6,V6 ((k:Nat):Int))] []) B ⟨K,u,hS,kr⟩ ?_ ?_
  ·rintro k l _ C aa hi21 D G ⟨m,rfl,b,c⟩
   refine sr (lv (rv_lss u u) (ns (wc_cond_t u (decide_eq_true (by omega)) (wc_skip (qe_seq (wc_seq (wc_block (sr (mv u (av u (nr (mv u ?_))))))))))))
   refine mv u ?_
   obtain⟨ab,H,I⟩:=ob D
   refine lv (rv_sidx underlying9 u u H) ?_
   obtain⟨ac,J,O⟩:=ob I
   refine lk co185 (ok_impl_wordByte F b.enter0 J) ?_
   rintro ad ae ⟨o,rfl,q⟩
   have s:=(b.c0 q).t0
   refine lv (rv_not u) (nq (wcc O u (fun R d=>?_) (fun R d=>?_)))
   ·refine sr (lv (r_f u) (nq (wc_ret (qe_block_ret (qe_then_ret (qe_then_ret ?_))))))
    cases oi d
    cases G _ u
    refine qe_block_ret (qe_then_ret ?_)
    cases oi i
    refine qe_then_ret ?_
    cases oi a
    exact ey results123 ⟨o,u,s⟩
   refine wc_skip (qe_block (qg (lv (rv_add_to u u (w64_succ hi21 f)) (mv u (wl_nil ?_)))))
   cases oi d
   exact qd ⟨_,u,o,u,s,(c.trans q.le)⟩
  rintro l _ C S ⟨m,rfl,b,c⟩
  subst S
  refine sr (lv (rv_lss u u) (ns (wc_cond_f u (decide_eq_false (by omega)) (wc_exit (qe_then_exit (qe_then_exit (qe_block_eq ?_)))))))
  cases oi i
  exact qd ⟨_,m,u,u,b,c⟩
 rintro _ w9 ⟨s5,K6,rfl,rfl,x,ai⟩
 have a:=elim_l a
 refine qr (mv u (lv (rv_slen underlying9 u) ?_))
 obtain⟨aj,T,U⟩:=ob a
 refine lk co108 (ok_impl_within F x.enter0 (rng_nat f) (by decide :rng64 1) (by decide :rng64 12) T) ?_
 rintro ak al ⟨V,rfl,W⟩
 have X:=(x.c0 W).t0
 refine av u (nq (wc_ret ?_))
 cases oi U
 exact ey results123 ⟨V,u,X⟩

theorem ok_impl_TextOk {q0:Str}{r:Bool}(hS:SH w K [] w K [])(y:q0.length≤maxLen)(hm:M.impl_TextOk F q0=some r):
  Calls prog 148 #[sv q0] w (R_b w K r):=by
 rw [M.impl_TextOk] at hm
 refine ci func148 u ntmps148 (sr (lv (r_f u) (nsr (mv u (lv (rv_slen underlying9 u) (lv (r_m u) (nq ?_)))))))
 obtain⟨A,B,d⟩:=ob hm
 refine wc_cutg (IE A w K [] K [(0,sv q0)] []) ?_ ?_
 ·refine wc_block ?_
  obtain⟨ab,C,o⟩:=ob B
  refine qf (fun (i:Nat) (q:Unit)=>IV w K [] K [(0,sv q0),(5,V6 (q0.length:Int)),(6,V6 ((i:Nat):Int))] []) C ⟨K,u,hS,kr⟩ ?_ ?_
  ·rintro i q _ D ac hi21 G H ⟨c,rfl,f,k⟩
   refine sr (lv (rv_lss u u) (ns (wc_cond_t u (decide_eq_true (by omega)) (wc_skip (qe_seq (wc_seq (wc_block (sr (mv u (av u (ns ?_)))))))))))
   obtain⟨I,J,O⟩:=ob G
   refine wc_cutg (IV w K [] c [(0,sv q0),(5,V6 (q0.length:Int)),(6,V6 ((i:Nat):Int)),(18,.bool I)] []) ?_ ?_
   ·refine wc_region (mv u (mv u ?_))
    obtain⟨ad,R,S⟩:=ob J
    refine lv (rv_sidx underlying9 u u R) (lv (rv_bl (b:=(32:UInt8)) u u) (mv u (bt S (fun a l=>?_) (fun a l=>?_))))
    ·refine lu a (lu a (lu a (lu a (lv (p_t u a u) (wl_nil ?_)))))
     cases oi l
     exact qd ⟨c,u,f,kr⟩
    refine lg a (rv_move u) (lg a (rv_move u) ?_)
    obtain⟨ae,T,U⟩:=ob l
    refine lg a (rv_sidx underlying9 u u T) (lg a (rv_bg (b:=(126:UInt8)) u u) (lv (rv_pick_f u a u) (wl_nil ?_)))
    cases oi U
    exact qd ⟨c,u,f,kr⟩
   rintro _ af ⟨s,rfl,x,V⟩
   refine qe_seq (wcc O u (fun W m=>?_) (fun W m=>?_))
   ·refine sr (lv (r_f u) (nq (wc_ret (qe_block_ret (qe_then_ret (qe_then_ret ?_))))))
    cases oi m
    cases H _ u
    refine qe_block_ret (qe_then_ret ?_)
    cases oi o
    refine qe_then_ret ?_
    cases oi d
    exact ey results148 ⟨s,u,x⟩
   refine wc_skip (qe_block (qg (lv (rv_add_to u u (w64_succ hi21 y)) (mv u (wl_nil ?_)))))
   cases oi m
   exact qd ⟨_,u,s,u,x,(k.trans V)⟩
  rintro q _ D X ⟨c,rfl,f,k⟩
  subst X
  refine sr (lv (rv_lss u u) (ns (wc_cond_f u (decide_eq_false (by omega)) (wc_exit (qe_then_exit (qe_then_exit (qe_block_eq ?_)))))))
  cases oi o
  exact qd ⟨_,c,u,u,f,k⟩
 rintro _ w9 ⟨s5,Y,rfl,rfl,aa,ai⟩
 have d:=elim_l d
 refine qr (mv u (lv (rv_slen underlying9 u) (lv (rv_leq u u) (av u (nq (wc_ret ?_))))))
 cases oi d
 exact ey results148 ⟨Y,u,aa⟩

theorem ok_impl_DocOk {q0:GDoc}{r:Bool}(hS:SH w K [] w K [])(aH:rng64 q0.Id)(D:SliceAt tGField K A a b q0.Fields)(G:SliceAt tGAttr K B c d q0.Nums)(hm:M.impl_DocOk F q0=some r):
  Calls prog 105 #[.agg #[V6 q0.Id,V3 A a b,V3 B c d]] w (R_b w K r):=by
 rw [M.impl_DocOk] at hm
 refine ci func105 u ntmps105 (sr (bx u hS fun k cT aI=>?_))
 have Y:SH _ _ _ _ _ [obj k [V6 q0.Id,V3 A a b,V3 B c d] 77]:=aI
 refine lv (r_f u) (ns (wc_seq ?_))
 obtain⟨aJ,aK,aL⟩:=ob hm
 refine wc_cutg (IV w K [] K [(1,pt k),(22,.bool aJ)] [obj k [V6 q0.Id,V3 A a b,V3 B c d] 77]) ?_ ?_
 ·refine wc_region (fl ff77_0 u tf3 m0 Y u ?_)
  obtain⟨cU,aM,aN⟩:=ob aK
  refine lk co108 (ok_impl_within F Y.enter0 aH (by decide :rng64 1) (by decide :rng64 9999) aM) ?_
  rintro cV cW ⟨aa,rfl,C⟩
  have H:=(Y.c0 C).t1
  refine lv (rv_not u) (mv u (bt aN (fun o ab=>?_) (fun o ab=>?_)))
  ·refine lu o (lu o (lu o (lu o (lv (p_t u o u) (mv u (lu u (lu u (lu u (lu u ?_)))))))))
   refine lv (p_t u u u) (wl_nil ?_)
   cases oi ab
   exact qd ⟨aa,u,H,C.le⟩
  refine lg o (rv_fieldAddr ff77_1 u) (lg o (rv_loadm1 tf74 u m0 H u) (lg o (rv_len underlying74 u (D.mono C.le)) (lg o (rv_gtr u u) (lv (rv_pick_f u o u) (mv u (bt ab (fun q ac=>?_) (fun q ac=>?_)))))))
  ·refine lu q (lu q (lu q (lu q (lv (p_t u q u) (wl_nil ?_)))))
   cases oi ac
   exact qd ⟨aa,u,H,C.le⟩
  refine lg q (rv_fieldAddr ff77_2 u) (lg q (rv_loadm1 tf75 u m0 H u) (lg q (rv_len underlying75 u (G.mono C.le)) (lg q (rv_gtr u u) (lv (rv_pick_f u q u) (wl_nil ?_)))))
  cases oi ac
  exact qd ⟨aa,u,H,C.le⟩
 rintro _ cX ⟨O,rfl,ad,y⟩
 refine qe_seq (wcc aL u (fun aO ae=>?_) (fun aO ae=>?_))
 ·refine sr (lv (r_f u) (nq (rr ?_)))
  cases oi ae
  exact ey results105 ⟨O,u,ad.s⟩
 refine wc_skip (qs (sr (fl ff77_1 u tf74 m0 ad u (lv (rv_len underlying74 u (D.mono y)) (lv (r_m u) (nq ?_))))))
 obtain⟨aP,aQ,R⟩:=ob ae
 refine wc_cutg (IE aP w K [] O [(1,pt k)] [obj k [V6 q0.Id,V3 A a b,V3 B c d] 77]) ?_ ?_
 ·refine wc_block ?_
  obtain⟨cY,aR,aw⟩:=ob aQ
  refine qf (fun (af:Nat) (ax:Unit)=>IV w K [] O [(1,pt k),(24,V3 A a b),(25,V6 (q0.Fields.length:Int)),(26,V6 ((af:Nat):Int))] [obj k [V6 q0.Id,V3 A a b,V3 B c d] 77]) aR ⟨O,u,ad,kr⟩ ?_ ?_
  ·rintro af ax _ aS cZ hi54 aT aU ⟨ag,rfl,S,I⟩
   refine sr (lv (rv_lss u u) (ns (wc_cond_t u (decide_eq_true (by omega)) (wc_skip (qe_seq (wc_seq (wc_block (sr (mv u ?_)))))))))
   obtain⟨T,aV,aW⟩:=ob aT
   refine li underlying74 tf108 (D.mono (y.trans I)) aV fun aX aY da aZ ba=>?_
   obtain⟨rfl,bb,bc⟩:=aZ
   have bd:AtK _ aX aY [sv T.Name,sv T.Text]:=ba
   refine lv (rv_loadS tf108 u S bd u) (al tf108 S fun be db bf=>?_)
   have bg:SH _ _ _ _ _ [obj be [sv [],sv []] 108,_]:=bf
   refine av u (lw [sv T.Name,sv T.Text] tf108 bg fun dc bh=>(ns ?_))
   obtain⟨bi,bj,bk⟩:=ob aW
   refine wc_cutg (IV w K [] ag [(1,pt k),(24,V3 A a b),(25,V6 (q0.Fields.length:Int)),(26,V6 ((af:Nat):Int)),(56,.bool bi)] [obj k [V6 q0.Id,V3 A a b,V3 B c d] 77]) ?_ ?_
   ·refine wc_quiet mixed (by kernel_rfl) bh (kv (rv_fieldAddr ff108_0 u) (kh (rq_loadm1 tf9 u m0 u) ?_))
    obtain⟨dd,bl,bm⟩:=ob bj
    refine kc co123 (fun _ _ bn de=>(ok_impl_WordOk F) bn.enter0 bb bl) (kv (rv_not u) (km u (bt bm (fun s ah=>?_) (fun s ah=>?_))))
    ·refine kn s (kn s (kn s (kn s (kv (p_t u s u) (km u (qv u u u u (qv u u u u (qv u u u u ?_))))))))
     iterate 10 refine ku ?_
     refine qv u u u u (kv (p_t u u u) (wq_nil ?_))
     rintro df ⟨bo,bp,bq⟩
     cases oi ah
     exact qd ⟨bo,u,bp.s,bq⟩
    refine kg s (rv_fieldAddr ff108_1 u) (kgh s (rq_loadm1 tf9 u m0 u) ?_)
    obtain⟨dg,br,bs⟩:=ob ah
    refine kcg s co148 (fun _ _ bu dh=>(ok_impl_TextOk F) bu.enter0 bc br) (kg s (rv_not u) (kv (rv_pick_f u s u) (km u (bt bs (fun l ai=>?_) (fun l ai=>?_)))))
    ·refine kn l (kn l (kn l ?_))
     iterate 10 refine ku ?_
     refine kn l (kv (p_t u l u) (wq_nil ?_))
     rintro di ⟨bv,bz,bA⟩
     cases oi ai
     exact qd ⟨bv,u,bz.s,bA⟩
    refine kg l (rv_move u) (kg l (rv_gtr u u) (kg l (rv_move u) (bt ai (fun f aj=>?_) (fun f aj=>?_))))
    ·refine kg f (rv_fieldAddr ff77_1 u) (kgh f (rq_loadm1 tf74 u m1 u) (kg f (rv_move u) (kg f (rv_sub u u) ?_)))
     obtain⟨ay,bB,bC⟩:=ob aj
     refine wq_indexAddr (t:=tGField) (wg u u f) u underlying74 tf108 u u (D.mono (y.trans I)) bB fun bD bE dj bF bG=>?_
     obtain⟨rfl,dk,dl⟩:=bF
     have bH:AtK _ bD bE [sv ay.Name,sv ay.Text]:=bG
     refine kg f (rv_fieldAddr ff108_0 u) (kgh f (rq_load1 tf9 u (bH 0 _ u)) (kg f (rv_fieldAddr ff108_0 u) (kgh f (rq_loadm1 tf9 u m0 u) (kg f (rv_sgeq u u) (kg l (rv_pick_t u f u) (kv (rv_pick_f u l u) (wq_nil ?_)))))))
     rintro dm ⟨bI,bJ,bK⟩
     cases oi bC
     exact qd ⟨bI,u,bJ.s,bK⟩
    iterate 10 refine kn f ?_
    refine kg l (p_f u f u) (kv (rv_pick_f u l u) (wq_nil ?_))
    rintro dn ⟨bL,bM,bN⟩
    cases oi aj
    exact qd ⟨bL,u,bM.s,bN⟩
   rintro _ dp ⟨az,rfl,aA,bO⟩
   refine qe_seq (wcc bk u (fun bP ak=>?_) (fun bP ak=>?_))
   ·refine sr (lv (r_f u) (nq (wc_ret (qe_block_ret (qe_then_ret (qe_then_ret ?_))))))
    cases oi ak
    cases aU _ u
    refine qe_block_ret (qe_then_ret ?_)
    cases oi aw
    refine qe_then_ret ?_
    cases oi R
    exact ey results105 ⟨az,u,aA.s⟩
   refine wc_skip (qe_block (qg (lv (rv_add_to u u (w64_succ hi54 (SliceAt.max (D.mono y)))) (mv u (wl_nil ?_)))))
   cases oi ak
   exact qd ⟨_,u,az,u,aA,(I.trans bO)⟩
  rintro ax _ aS bQ ⟨ag,rfl,S,I⟩
  subst bQ
  refine sr (lv (rv_lss u u) (ns (wc_cond_f u (decide_eq_false (by omega)) (wc_exit (qe_then_exit (qe_then_exit (qe_block_eq ?_)))))))
  cases oi aw
  exact qd ⟨_,ag,u,u,S,I⟩
 rintro _ dq ⟨dr,am,rfl,rfl,aB,U⟩
 have R:=elim_l R
 refine qs (sr (fl ff77_2 u tf75 m0 aB u (lv (rv_len underlying75 u (G.mono (y.trans U))) (lv (r_m u) (nq ?_)))))
 obtain⟨bR,bS,V⟩:=ob R
 refine wc_cutg (IE bR w K [] am [] []) ?_ ?_
 ·refine wc_block ?_
  obtain⟨ds,bT,aC⟩:=ob bS
  refine qf (fun (an:Nat) (aD:Unit)=>IV w K [] am [(1,pt k),(59,V3 B c d),(60,V6 (q0.Nums.length:Int)),(61,V6 ((an:Nat):Int))] [obj k [V6 q0.Id,V3 A a b,V3 B c d] 77]) bT ⟨am,u,aB,kr⟩ ?_ ?_
  ·rintro an aD _ bU dt hi156 bV bW ⟨ao,rfl,W,J⟩
   refine sr (lv (rv_lss u u) (ns (wc_cond_t u (decide_eq_true (by omega)) (wc_skip (qe_seq (wc_seq (wc_block (sr (mv u ?_)))))))))
   obtain⟨X,bX,bY⟩:=ob bV
   refine li underlying75 tf142 (G.mono ((y.trans U).trans J)) bX fun bZ ca du cb cc=>?_
   obtain⟨rfl,cd,ce⟩:=cb
   have cf:AtK _ bZ ca [sv X.Name,V6 X.Num]:=cc
   refine lv (rv_loadS tf142 u W cf u) (al tf142 W fun cg dv ch=>?_)
   have cj:SH _ _ _ _ _ [obj cg [sv [],V6 0] 142,_]:=ch
   refine av u (lw [sv X.Name,V6 X.Num] tf142 cj fun dw ck=>(ns ?_))
   obtain⟨cl,cm,cn⟩:=ob bY
   refine wc_cutg (IV w K [] ao [(1,pt k),(59,V3 B c d),(60,V6 (q0.Nums.length:Int)),(61,V6 ((an:Nat):Int)),(91,.bool cl)] [obj k [V6 q0.Id,V3 A a b,V3 B c d] 77]) ?_ ?_
   ·refine wc_quiet mixed (by kernel_rfl) ck (kv (rv_fieldAddr ff142_0 u) (kh (rq_loadm1 tf9 u m0 u) ?_))
    obtain⟨dx,cp,cq⟩:=ob cm
    refine kc co123 (fun _ _ cr dy=>(ok_impl_WordOk F) cr.enter0 cd cp) (kv (rv_not u) (km u (bt cq (fun x ap=>?_) (fun x ap=>?_))))
    ·refine kn x (kn x (kn x (kn x (kv (p_t u x u) (km u (qv u u u u (qv u u u u (qv u u u u ?_))))))))
     iterate 10 refine ku ?_
     refine qv u u u u (kv (p_t u u u) (wq_nil ?_))
     rintro dz ⟨cs,ct,cu⟩
     cases oi ap
     exact qd ⟨cs,u,ct.s,cu⟩
    refine kg x (rv_fieldAddr ff142_1 u) (kgh x (rq_loadm1 tf3 u m0 u) ?_)
    obtain⟨dA,cv,cw⟩:=ob ap
    refine kcg x co108 (fun _ _ cx dB=>(ok_impl_within F) cx.enter0 ce d_0 (by decide :rng64 999999999) cv) (kg x (rv_not u) (kv (rv_pick_f u x u) (km u (bt cw (fun m aq=>?_) (fun m aq=>?_)))))
    ·refine kn m (kn m (kn m ?_))
     iterate 10 refine ku ?_
     refine kn m (kv (p_t u m u) (wq_nil ?_))
     rintro dC ⟨cy,cz,cA⟩
     cases oi aq
     exact qd ⟨cy,u,cz.s,cA⟩
    refine kg m (rv_move u) (kg m (rv_gtr u u) (kg m (rv_move u) (bt aq (fun i ar=>?_) (fun i ar=>?_))))
    ·refine kg i (rv_fieldAddr ff77_2 u) (kgh i (rq_loadm1 tf75 u m1 u) (kg i (rv_move u) (kg i (rv_sub u u) ?_)))
     obtain⟨aE,cB,cC⟩:=ob ar
     refine wq_indexAddr (t:=tGAttr) (wg u u i) u underlying75 tf142 u u (G.mono ((y.trans U).trans J)) cB fun cD cE dD cF cG=>?_
     obtain⟨rfl,dE,dF⟩:=cF
     have cH:AtK _ cD cE [sv aE.Name,V6 aE.Num]:=cG
     refine kg i (rv_fieldAddr ff142_0 u) (kgh i (rq_load1 tf9 u (cH 0 _ u)) (kg i (rv_fieldAddr ff142_0 u) (kgh i (rq_loadm1 tf9 u m0 u) (kg i (rv_sgeq u u) (kg m (rv_pick_t u i u) (kv (rv_pick_f u m u) (wq_nil ?_)))))))
     rintro dG ⟨cI,cJ,cK⟩
     cases oi cC
     exact qd ⟨cI,u,cJ.s,cK⟩
    iterate 10 refine kn i ?_
    refine kg m (p_f u i u) (kv (rv_pick_f u m u) (wq_nil ?_))
    rintro dH ⟨cL,cM,cN⟩
    cases oi ar
    exact qd ⟨cL,u,cM.s,cN⟩
   rintro _ dI ⟨aF,rfl,aG,cO⟩
   refine qe_seq (wcc cn u (fun cP au=>?_) (fun cP au=>?_))
   ·refine sr (lv (r_f u) (nq (wc_ret (qe_block_ret (qe_then_ret (qe_then_ret ?_))))))
    cases oi au
    cases bW _ u
    refine qe_block_ret (qe_then_ret ?_)
    cases oi aC
    refine qe_then_ret ?_
    cases oi V
    exact ey results105 ⟨aF,u,aG.s⟩
   refine wc_skip (qe_block (qg (lv (rv_add_to u u (w64_succ hi156 (SliceAt.max (G.mono (y.trans U))))) (mv u (wl_nil ?_)))))
   cases oi au
   exact qd ⟨_,u,aF,u,aG,(J.trans cO)⟩
  rintro aD _ bU cQ ⟨ao,rfl,W,J⟩
  subst cQ
  refine sr (lv (rv_lss u u) (ns (wc_cond_f u (decide_eq_false (by omega)) (wc_exit (qe_then_exit (qe_then_exit (qe_block_eq ?_)))))))
  cases oi aC
  exact qe_mid' ⟨_,ao,u,u,W.s,J⟩ trivial
 rintro _ dJ ⟨dK,cR,rfl,rfl,cS,dL⟩
 have V:=elim_l V
 refine qr (lv (r_t u) (nq (wc_ret ?_)))
 cases oi V
 exact ey results105 ⟨cR,u,cS⟩

theorem ok_impl_DocsOk {q0:List GDoc}{r:Bool}(hS:SH w K [] w K [])(f:SliceAt tGDoc K A a b q0)(hm:M.impl_DocsOk F q0=some r):
  Calls prog 45 #[V3 A a b] w (R_b w K r):=by
 rw [M.impl_DocsOk] at hm
 refine ci func45 u ntmps45 (sr (lv (r_f u) (nsr (mv u (lv (rv_len underlying43 u f) (lv (r_m u) (nq ?_)))))))
 obtain⟨U,V,k⟩:=ob hm
 refine wc_cutg (IE U w K [] K [(0,V3 A a b)] []) ?_ ?_
 ·refine wc_block ?_
  obtain⟨bc,W,J⟩:=ob V
  refine qf (fun (m:Nat) (O:Unit)=>IV w K [] K [(0,V3 A a b),(5,V3 A a b),(6,V6 (q0.length:Int)),(7,V6 ((m:Nat):Int))] []) W ⟨K,u,hS,kr⟩ ?_ ?_
  ·rintro m O _ X bd hi23 Y aa ⟨o,rfl,l,i⟩
   refine sr (lv (rv_lss u u) (ns (wc_cond_t u (decide_eq_true (by omega)) (wc_skip (qe_seq (wc_seq (wc_block (sr (mv u ?_)))))))))
   obtain⟨q,ab,ac⟩:=ob Y
   refine li underlying43 tf77 (f.mono i) ab fun ad ae be af ag=>?_
   obtain⟨s,x,y,B,C,D,rfl,ah,ai,aj⟩:=af
   have ak:AtK _ ad ae [V6 q.Id,V3 s x y,V3 B C D]:=ag
   refine lv (rv_loadS tf77 u l ak u) (al tf77 l fun am bf an=>?_)
   have ao:SH _ _ _ _ _ [obj am [V6 0,V3 none 0 0,V3 none 0 0] 77]:=an
   refine av u (lw [V6 q.Id,V3 s x y,V3 B C D] tf77 ao fun bg ap=>(ns ?_))
   obtain⟨aq,ar,au⟩:=ob ac
   refine wc_cutg (IV w K [] o [(0,V3 A a b),(5,V3 A a b),(6,V6 (q0.length:Int)),(7,V6 ((m:Nat):Int)),(29,.bool aq)] []) ?_ ?_
   ·refine wc_quiet mixed (by kernel_rfl) ap (kh (rq_loadmS (ds:=[V6 q.Id,V3 s x y,V3 B C D]) tf77 u m0 u u) ?_)
    obtain⟨bh,aw,ax⟩:=ob ar
    refine kc co105 (fun _ _ ay R=>(ok_impl_DocOk F) ay.enter0 ah (ai.mono R) (aj.mono R) aw) (kv (rv_not u) (km u (bt ax (fun c G=>?_) (fun c G=>?_))))
    ·refine kn c (kn c (kn c ?_))
     iterate 9 refine ku ?_
     refine kn c (kv (p_t u c u) (wq_nil ?_))
     rintro bi ⟨az,aA,aB⟩
     cases oi G
     exact qd ⟨az,u,aA.s,aB⟩
    refine kg c (rv_move u) (kg c (rv_gtr u u) (kg c (rv_move u) (bt G (fun d H=>?_) (fun d H=>?_))))
    ·refine kg d (rv_move u) (kg d (rv_move u) (kg d (rv_sub u u) ?_))
     obtain⟨aC,aD,aE⟩:=ob H
     refine wq_indexAddr (t:=tGDoc) (wg u u d) u underlying43 tf77 u u (f.mono i) aD fun aF aG bj aH aI=>?_
     obtain⟨aJ,aK,aL,aM,aN,aO,rfl,bk,bl,bm⟩:=aH
     have aP:AtK _ aF aG [V6 aC.Id,V3 aJ aK aL,V3 aM aN aO]:=aI
     refine kg d (rv_fieldAddr ff77_0 u) (kgh d (rq_load1 tf3 u (aP 0 _ u)) (kg d (rv_fieldAddr ff77_0 u) (kgh d (rq_loadm1 tf3 u m0 u) (kg d (rv_geq u u) (kg c (rv_pick_t u d u) (kv (rv_pick_f u c u) (wq_nil ?_)))))))
     rintro bn ⟨aQ,aR,aS⟩
     cases oi aE
     exact qd ⟨aQ,u,aR.s,aS⟩
    iterate 9 refine kn d ?_
    refine kg c (p_f u d u) (kv (rv_pick_f u c u) (wq_nil ?_))
    rintro bo ⟨aT,aU,aV⟩
    cases oi H
    exact qd ⟨aT,u,aU.s,aV⟩
   rintro _ bp ⟨S,rfl,T,aW⟩
   refine qe_seq (wcc au u (fun aX I=>?_) (fun aX I=>?_))
   ·refine sr (lv (r_f u) (nq (wc_ret (qe_block_ret (qe_then_ret (qe_then_ret ?_))))))
    cases oi I
    cases aa _ u
    refine qe_block_ret (qe_then_ret ?_)
    cases oi J
    refine qe_then_ret ?_
    cases oi k
    exact ey results45 ⟨S,u,T⟩
   refine wc_skip (qe_block (qg (lv (rv_add_to u u (w64_succ hi23 (SliceAt.max f))) (mv u (wl_nil ?_)))))
   cases oi I
   exact qd ⟨_,u,S,u,T,(i.trans aW)⟩
  rintro O _ X aY ⟨o,rfl,l,i⟩
  subst aY
  refine sr (lv (rv_lss u u) (ns (wc_cond_f u (decide_eq_false (by omega)) (wc_exit (qe_then_exit (qe_then_exit (qe_block_eq ?_)))))))
  cases oi J
  exact qd ⟨_,o,u,u,l,i⟩
 rintro _ bq ⟨s8,K9,rfl,rfl,ba,bb⟩
 have k:=elim_l k
 refine qr (mv u (lv (rv_len underlying43 u (f.mono bb)) (lv (rv_leq u u) (av u (nq (wc_ret ?_))))))
 cases oi k
 exact ey results45 ⟨K9,u,ba⟩

theorem ok_impl_wordsAscend {q0:List Str}{r:Bool}(hS:SH w K [] w K [])(l:SliceAt tStr K A a b q0)(hm:M.impl_wordsAscend F q0=some r):
  Calls prog 122 #[V3 A a b] w (R_b w K r):=by
 rw [M.impl_wordsAscend] at hm
 refine ci func122 u ntmps122 (sr (lv (r_f u) (nsr (mv u (lv (rv_len underlying22 u l) (lv (r_m u) (nq ?_)))))))
 obtain⟨J,O,m⟩:=ob hm
 refine wc_cutg (IE J w K [] K [] []) ?_ ?_
 ·refine wc_block ?_
  obtain⟨aA,R,D⟩:=ob O
  refine qf (fun (q:Nat) (G:Unit)=>IV w K [] K [(0,V3 A a b),(5,V3 A a b),(6,V6 (q0.length:Int)),(7,V6 ((q:Nat):Int))] []) R ⟨K,u,hS,kr⟩ ?_ ?_
  ·rintro q G _ S aB hi23 T U ⟨s,rfl,f,i⟩
   refine sr (lv (rv_lss u u) (ns (wc_cond_t u (decide_eq_true (by omega)) (wc_skip (qe_seq (wc_seq (wc_block (sr (mv u ?_)))))))))
   obtain⟨V,W,X⟩:=ob T
   refine li underlying22 tf9 (l.mono i) W fun Y aa aC ab ac=>?_
   obtain⟨rfl,ad⟩:=ab
   have ae:AtK _ Y aa [sv V]:=ac
   refine lv (rv_load1 tf9 u f (ae 0 _ u)) (av u (av u (ns ?_)))
   obtain⟨af,ag,ah⟩:=ob X
   refine wc_cutg (IV w K [] s [(0,V3 A a b),(5,V3 A a b),(6,V6 (q0.length:Int)),(7,V6 ((q:Nat):Int)),(27,.bool af)] []) ?_ ?_
   ·refine wc_region (mv u ?_)
    obtain⟨aD,ai,aj⟩:=ob ag
    refine lk co123 (ok_impl_WordOk F f.enter0 ad ai) ?_
    rintro aE aF ⟨x,rfl,k⟩
    have o:=(f.c0 k).t0
    refine lv (rv_not u) (mv u (bt aj (fun c y=>?_) (fun c y=>?_)))
    ·refine lu c (lu c (lu c (wl_un (uu u u) u (wl_un (uu u u) u (wl_un (uu u u) u (wl_un (uu u u) u (wl_un (uu u u) u (wl_un (uu u u) u (wl_un (uu u u) u ?_)))))))))
     refine lu c (lv (p_t u c u) (wl_nil ?_))
     cases oi y
     exact qd ⟨x,u,o,k.le⟩
    refine lg c (rv_move u) (lg c (rv_gtr u u) (lg c (rv_move u) (bt y (fun d B=>?_) (fun d B=>?_))))
    ·refine lg d (rv_move u) (lg d (rv_move u) (lg d (rv_sub u u) ?_))
     obtain⟨ak,al,am⟩:=ob B
     refine wl_indexAddr (t:=tStr) (wg u u d) u underlying22 tf9 u u (l.mono (i.trans k.le)) al fun an ao aG ap aq=>?_
     obtain⟨rfl,aH⟩:=ap
     have ar:AtK _ an ao [sv ak]:=aq
     refine lg d (rv_load1 tf9 u o (ar 0 _ u)) (lg d (rv_move u) (lg d (rv_sgeq u u) (lg c (rv_pick_t u d u) (lv (rv_pick_f u c u) (wl_nil ?_)))))
     cases oi am
     exact qd ⟨x,u,o,k.le⟩
    iterate 7 refine lu d ?_
    refine lg c (p_f u d u) (lv (rv_pick_f u c u) (wl_nil ?_))
    cases oi B
    exact qd ⟨x,u,o,k.le⟩
   rintro _ aI ⟨H,rfl,I,au⟩
   refine qe_seq (wcc ah u (fun aw C=>?_) (fun aw C=>?_))
   ·refine sr (lv (r_f u) (nq (wc_ret (qe_block_ret (qe_then_ret (qe_then_ret ?_))))))
    cases oi C
    cases U _ u
    refine qe_block_ret (qe_then_ret ?_)
    cases oi D
    refine qe_then_ret ?_
    cases oi m
    exact ey results122 ⟨H,u,I⟩
   refine wc_skip (qe_block (qg (lv (rv_add_to u u (w64_succ hi23 (SliceAt.max l))) (mv u (wl_nil ?_)))))
   cases oi C
   exact qd ⟨_,u,H,u,I,(i.trans au)⟩
  rintro G _ S ax ⟨s,rfl,f,i⟩
  subst ax
  refine sr (lv (rv_lss u u) (ns (wc_cond_f u (decide_eq_false (by omega)) (wc_exit (qe_then_exit (qe_then_exit (qe_block_eq ?_)))))))
  cases oi D
  exact qe_mid' ⟨_,s,u,u,f,i⟩ trivial
 rintro _ aJ ⟨s8,K9,rfl,rfl,az,aL⟩
 have m:=elim_l m
 refine qr (lv (r_t u) (nq (wc_ret ?_)))
 cases oi m
 exact ey results122 ⟨K9,u,az⟩
end Go.Proofs.YtpjefkdclnmlfaaGreat
