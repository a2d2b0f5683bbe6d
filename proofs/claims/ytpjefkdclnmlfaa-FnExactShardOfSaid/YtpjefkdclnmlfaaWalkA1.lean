/-
 Walks of the functions. Printed by gen.py.
-/
import Derived.Test.YtpjefkdclnmlfaaWalkA0
set_option linter.unusedVariables false
set_option linter.unusedSectionVars false
set_option maxRecDepth 100000
namespace Go.Proofs.Ytpjefkdclnmlfaa
set_option maxHeartbeats 4000000
open Go Go.Fk Go.RowKit Try
variable (F:Nat){w:World}{K:KMap}{Z:List Nat}{g1 g2 g3:Nat}{A B C D G H I J O R S T:Option Addr}{a b c d f i k l m n o p q s v x y aa ab ac ad ae af ag:Nat}
variable [dr:Dr]

theorem ok_laws_toAttr {q0:GAttr}{r:GAttr}(hS:SH w K [] w K [])(f:q0.Name.length≤maxLen)(i:rng64 q0.Num)(hm:M.laws_toAttr F q0=some r):
  Calls prog 65 #[.agg #[sv q0.Name,V6 q0.Num]] w fun e w'=>∃K',e= .returned (.agg #[sv r.Name,V6 r.Num])∧SH w K [] w' K' []∧r.Name.length≤maxLen∧rng64 r.Num:=by
 rw [M.laws_toAttr] at hm
 refine ci func65 u ntmps65 (sr (bx u hS fun g3 x k=>?_))
 have l:SH _ _ _ _ _ [obj g3 [sv q0.Name,V6 q0.Num] 90]:=k
 refine al tf84 l fun m y o=>?_
 have q:SH _ _ _ _ _ [obj m [sv [],V6 0] 84,_]:=o
 refine nr (al tf84 q fun s A v=>?_)
 have a:SH _ _ _ _ _ [obj s [sv [],V6 0] 84,_,_]:=v
 refine nr (fl ff90_0 u tf9 m2 a u (fa ff84_0 u (ls [sv q0.Name,V6 0] (sv q0.Name) tf9 a fun B b=>(nr (fl ff90_1 u tf3 m2 b u (fa ff84_1 u (ls [sv q0.Name,V6 q0.Num] (V6 q0.Num) tf3 b fun C c=>(nr (lv (rv_loadmS (ds:=[sv q0.Name,V6 q0.Num]) tf84 u m0 c u u) ?_)))))))))
 refine lw [sv q0.Name,V6 q0.Num] tf84 c.f1 fun D d=>(nq (wc_ret ?_))
 cases oi hm
 exact ez results65 tf84 d m0 ⟨K,u,d.s,f,i⟩

theorem ok_laws_toAttrS {q0:List GAttr}{r:(List GAttr)}(hS:SH w K [] w K [])(y:SliceAt tGAttr K A a b q0)(hm:M.laws_toAttrS F q0=some r):
  Calls prog 51 #[V3 A a b] w fun e w'=>∃a_1 n_2 c_3 K',e= .returned (V3 a_1 n_2 c_3)∧SH w K [] w' K' [tail (V3 a_1 n_2 c_3) 84 2]∧SliceAt tGAttr K' a_1 n_2 c_3 r:=by
 rw [M.laws_toAttrS] at hm
 refine ci func51 u ntmps51 (sr (lv (r_n u) (nr (mv u (lv (rv_len underlying53 u y) ?_)))))
 obtain⟨O,R,S⟩:=ob hm
 refine wl_make (t:=tGAttr) wn u underlying59 tf84 u u u R ⟨u,(by decide :([]:Str).length≤maxLen),d_0⟩ hS fun f cs9 aA hmx13 hrow11 T=>?_
 obtain⟨m14,hm15⟩: ∃m,m=O.length:=⟨_,u⟩
 rw [←hm15] at hmx13
 rw [←hm15]
 refine av u (nsr (lv (r_0 u) (nq ?_)))
 obtain⟨D,U,V⟩:=ob S
 refine wc_cutg (fun E' w'=>∃cs23 l,E'=[(3,V3 (some ⟨f,0,none⟩) m14 m14)]∧SH w K [] w' l [obj f cs23 84]∧KLe K l∧RowAt true tGAttr l cs23 D∧m14=D.length) ?_ ?_
 ·refine wc_block ?_
  obtain⟨aB,W,X⟩:=ob U
  refine qw (fun (c:Int×(List GAttr)) E' w'=>∃cs36 k,E'=[(0,V3 A a b),(3,V3 (some ⟨f,0,none⟩) m14 m14),(4,V6 c.1)]∧SH w K [] w' k [obj f cs36 84]∧KLe K k∧rng64 c.1∧RowAt true tGAttr k cs36 c.2∧m14=c.2.length) W ⟨cs9,K,u,T,kr,d_0,hrow11,hm15⟩ ?_
  rintro c _ aC aD Y aa ⟨cs36,k,rfl,o,q,aE,hrow37,hm38⟩
  refine wc_seq (sr (mv u (mv u (lv (rv_len underlying53 u (y.mono q)) (lv (rv_lss u u) (nq (wcc Y u (fun ab B=>?_) (fun ab B=>?_))))))))
  ·refine wc_skip (qs (wc_block (wc_region (mv u (mv u (mv u (mv u ?_)))))))
   obtain⟨G,ac,ad⟩:=ob B
   refine li underlying53 tf90 (y.mono q) ac fun ae af aF ag ah=>?_
   obtain⟨rfl,ai,aj⟩:=ag
   have ak:AtK _ ae af [sv G.Name,V6 G.Num]:=ah
   refine lv (rv_loadS tf90 u o ak u) ?_
   obtain⟨s,al,am⟩:=ob ad
   refine lk co65 (ok_laws_toAttr F o.enter0 ai aj al) ?_
   rintro aG aH ⟨an,rfl,x,ao,ap⟩
   have aq:=(o.c0 x).t1
   obtain⟨H,C,ar⟩:=ob am
   obtain⟨aI,au,aw⟩:=RowAt.at (RowAt.mono x.le hrow37) C
   obtain⟨rfl,aJ,aK⟩:=au
   have aL: ∀(j:Nat) (d:Value),[sv H.Name,V6 H.Num][j]? =some d→cs36[c.1.toNat*tGAttr.size+j]? =some d:=aw
   refine lv (rv_indexRow (t:=tGAttr) underlying59 tf84 u u hm38 C) (wl_storeRow (t:=tGAttr) (v:=.agg #[sv s.Name,V6 s.Num]) (e:=s) wn tf84 u u ⟨u,ao,ap⟩ aq (RowAt.mono x.le hrow37) C fun cs74 aM hrow76 ax=>?_)
   have hm78:=hm38.trans (List.length_set (i:=c.1.toNat) (a:=s)).symm
   refine nb (qe_seq (wc_region (mv u (lv (rv_add u u) (av u (wl_nil ?_))))))
   cases oi ar
   exact qd ⟨_,u,cs74,an,u,ax,(q.trans x.le),(w64_rng _),hrow76,hm78⟩
  refine wc_exit (qe_then_exit (qe_then_exit ?_))
  cases oi B
  cases aa _ u
  refine qe_block_eq ?_
  cases oi X
  exact qd ⟨cs36,k,u,o,q,hrow37,hm38⟩
 rintro _ aN ⟨cs23,l,rfl,ay,aO,hrow24,hm25⟩
 refine qr (mv u (av u (nq (wc_ret ?_))))
 obtain⟨az,aP,I,J⟩:=SH.freeze ay hrow24 (row_max hm25 hmx13)
 rw [←hm25] at I J
 cases oi V
 exact ey results51 ⟨(some ⟨f,0,none⟩),m14,m14,az,u,J,I⟩

theorem bag_laws_toAttrS (F:Nat){w:World}{K:KMap}{a1:Option Addr}{n2 c3:Nat}{p0_a:List GAttr}{r:(List GAttr)}(hS:SH w K [] w K [])(hs4:SliceAt tGAttr K a1 n2 c3 p0_a)(hm:M.laws_toAttrS F p0_a=some r):
  Calls Try.prog 51 #[.slice a1 n2 c3] w fun e w'=>∃(a_1:Option Addr) (n_2 c_3:Nat) (K':KMap) (B':List Nat),e= .returned (.slice a_1 n_2 c_3)∧SH w K [] w' K' [bag B']∧SliceAt tGAttr (K'.only B') a_1 n_2 c_3 r:=
 (ok_laws_toAttrS F hS hs4 hm).mono fun e w' ⟨a,n,c,K',he,hS',hs'⟩=>
  let ⟨B,hB,hb⟩:=SH.bagTail hS'
  ⟨a,n,c,K',B,he,hB,SliceAt.only_flat (t:=tGAttr) (fun h=>h) hs' hb⟩

theorem bag_laws_toDoc (F:Nat){w:World}{K:KMap}{a2:Option Addr}{n3 c4:Nat}{a6:Option Addr}{n7 c8:Nat}{p0_a:GDoc}{r:GDoc}(hS:SH w K [] w K [])(hr1:rng64 p0_a.Id)(hs5:SliceAt tGField K a2 n3 c4 p0_a.Fields)(hs9:SliceAt tGAttr K a6 n7 c8 p0_a.Nums)(hm:M.laws_toDoc F p0_a=some r):
  Calls Try.prog 33 #[.agg #[.int .i64 p0_a.Id,.slice a2 n3 c4,.slice a6 n7 c8]] w fun e w'=>∃(a_2:Option Addr) (n_3 c_4:Nat) (a_6:Option Addr) (n_7 c_8:Nat) (K':KMap) (B':List Nat),e= .returned (.agg #[.int .i64 r.Id,.slice a_2 n_3 c_4,.slice a_6 n_7 c_8])∧SH w K [] w' K' [bag B']∧rng64 r.Id∧SliceAt tGField (K'.only B') a_2 n_3 c_4 r.Fields∧SliceAt tGAttr (K'.only B') a_6 n_7 c_8 r.Nums:=by
 rw [M.laws_toDoc] at hm
 refine calls_in Try.func33 u Try.ntmps33 u ?_
 refine sr ?_
 refine wl_box wn u u hS ?_
 intro g10 w11 hS12
 have hS13:SH _ _ _ _ _ [obj g10 [.int .i64 p0_a.Id,.slice a2 n3 c4,.slice a6 n7 c8] 55]:=hS12
 refine wl_alloc wn u tf61 hS13 ?_
 intro g14 w15 hS16
 have hS17:SH _ _ _ _ _ [obj g14 [.int .i64 0,.slice none 0 0,.slice none 0 0] 61,_]:=hS16
 refine nr ?_
 refine wl_alloc wn u tf61 hS17 ?_
 intro g18 w19 hS20
 have hS21:SH _ _ _ _ _ [obj g18 [.int .i64 0,.slice none 0 0,.slice none 0 0] 61,_,_]:=hS20
 refine nr ?_
 refine wl_val wn u (rv_fieldAddr ff55_0 u) ?_
 refine wl_val wn u (rv_loadm1 tf3 u (.tail _ (.tail _ (.head _))) hS21 u) ?_
 refine wl_val wn u (rv_fieldAddr ff61_0 u) ?_
 refine wl_store (cs':=[.int .i64 p0_a.Id,.slice none 0 0,.slice none 0 0]) (v:=.int .i64 p0_a.Id) wn tf3 u u u (by simp [Value.cells,Value.oneCell']) hS21 u u ?_
 intro w22 hS23
 refine nr ?_
 refine wl_val wn u (rv_fieldAddr ff55_1 u) ?_
 refine wl_val wn u (rv_loadm1 tf52 u (.tail _ (.tail _ (.head _))) hS23 u) ?_
 obtain⟨r24,hx25,h26⟩:=ob hm
 refine wl_call wn u (rt_call (vs:=[.slice a2 n3 c4]) co50 u) ((bag_laws_toFieldS F) hS23.enter0 hs5 hx25) ?_
 rintro e34 w28 ⟨a30,n31,c32,K27,B27,rfl,hS29,hs33⟩
 refine⟨_,u,?_⟩
 have hS35:SH _ _ _ _ _ [_,_,_,_]:=SH.call0 hS23 hS29
 refine wl_val wn u (rv_fieldAddr ff61_1 u) ?_
 have hS36:SH _ _ _ _ _ [_,_,_,_]:=SH.front (p:=[_]) hS35
 refine wl_store (cs':=[.int .i64 p0_a.Id,.slice a30 n31 c32,.slice none 0 0]) (v:=.slice a30 n31 c32) wn tf58 u u u (by simp [Value.cells,Value.oneCell']) hS36 u u ?_
 intro w37 hS38
 refine nr ?_
 refine wl_val wn u (rv_fieldAddr ff55_2 u) ?_
 refine wl_val wn u (rv_loadm1 tf53 u (.tail _ (.tail _ (.tail _ (.head _)))) hS38 u) ?_
 obtain⟨r39,hx40,h41⟩:=ob h26
 refine wl_call wn u (rt_call (vs:=[.slice a6 n7 c8]) co51 u) ((bag_laws_toAttrS F) hS38.enter0 (SliceAt.mono hS29.le hs9) hx40) ?_
 rintro e49 w43 ⟨a45,n46,c47,K42,B42,rfl,hS44,hs48⟩
 refine⟨_,u,?_⟩
 have hS50:SH _ _ _ _ _ [_,_,_,_,_]:=SH.call0 hS38 hS44
 refine wl_val wn u (rv_fieldAddr ff61_2 u) ?_
 have hS51:SH _ _ _ _ _ [_,_,_,_,_]:=SH.front (p:=[_]) hS50
 refine wl_store (cs':=[.int .i64 p0_a.Id,.slice a30 n31 c32,.slice a45 n46 c47]) (v:=.slice a45 n46 c47) wn tf59 u u u (by simp [Value.cells,Value.oneCell']) hS51 u u ?_
 intro w52 hS53
 refine nr ?_
 refine wl_val wn u (rv_loadmS (ds:=[.int .i64 p0_a.Id,.slice a30 n31 c32,.slice a45 n46 c47]) tf61 u (.head _) hS53 u u) ?_
 have hS54:SH _ _ _ _ _ [_,_,_,_,_]:=SH.front (p:=[_,_,_]) hS53
 refine wl_store (cs':=[.int .i64 p0_a.Id,.slice a30 n31 c32,.slice a45 n46 c47]) (v:=.agg #[.int .i64 p0_a.Id,.slice a30 n31 c32,.slice a45 n46 c47]) wn tf61 u u u (by simp [Value.cells,Value.oneCell']) hS54 u u ?_
 intro w55 hS56
 refine nq ?_
 refine wc_ret ?_
 obtain rfl:=oi h41
 have hS57:SH _ _ _ _ _ [_,_,_,_,_]:=SH.front (p:=[_,_]) hS56
 have hS58:SH _ _ _ _ _ [_,_,_,_,_]:=SH.front (p:=[_,_,_]) hS57
 have hS59:SH _ _ _ _ _ [_,_]:=SH.sublist hS58 (.cons_cons _ (.cons_cons _ (.cons _ (.cons _ (.cons _ .slnil)))))
 exact qe_ret (vs:=[_]) Try.results33 ⟨⟨_,_,u,run_loadVar_at tf61 (cs:=[.int .i64 p0_a.Id,.slice a30 n31 c32,.slice a45 n46 c47]) (fun j c e=>by rw [Nat.zero_add,hS56.mem_obj (.head _)];exact e) (.inl ⟨u,u,u⟩)⟩,trivial⟩ ⟨a30,n31,c32,a45,n46,c47,K42,(B27++B42),u,SH.bagJoin hS59,hr1,(SliceAt.mono (only_mono hS44.le fun _ h=>List.mem_append_left _ h) hs33),(SliceAt.mono (only_mono (KLe.refl _) fun _ h=>List.mem_append_right _ h) hs48)⟩

theorem bag_laws_toDocS (F:Nat){w:World}{K:KMap}{a1:Option Addr}{n2 c3:Nat}{p0_a:List GDoc}{r:(List GDoc)}(hS:SH w K [] w K [])(hs4:SliceAt tGDoc K a1 n2 c3 p0_a)(hm:M.laws_toDocS F p0_a=some r):
  Calls Try.prog 16 #[.slice a1 n2 c3] w fun e w'=>∃(a_1:Option Addr) (n_2 c_3:Nat) (K':KMap) (B':List Nat),e= .returned (.slice a_1 n_2 c_3)∧SH w K [] w' K' [bag B']∧SliceAt tGDoc (K'.only B') a_1 n_2 c_3 r:=by
 rw [M.laws_toDocS] at hm
 refine calls_in Try.func16 u Try.ntmps16 u ?_
 refine sr ?_
 refine wl_val wn u (rv_assign (v:=.slice none 0 0) u) ?_
 refine nr ?_
 refine vm u u ?_
 refine wl_val wn u (rv_len (t:=tGDoc) Try.underlying31 u hs4) ?_
 obtain⟨x5,hx6,h7⟩:=ob hm
 refine wl_make (t:=Ty.fix tGDoc (K.only [])) wn u Try.underlying33 tf61 u u u hx6 ⟨none,0,0,none,0,0,u,d_0,(SliceAt.nil _ _),(SliceAt.nil _ _)⟩ hS ?_
 intro g8 cs9 w10 hmx13 hrow11 hS12
 obtain⟨m14,hm15⟩: ∃m,m=x5.length:=⟨_,u⟩
 rw [←hm15] at hmx13
 rw [←hm15]
 refine va u u ?_
 refine nsr ?_
 refine wl_val wn u (rv_assign (v:=.int .i64 0) u) ?_
 refine nq ?_
 obtain⟨o16,h17,h18⟩:=ob h7
 refine wc_cutg (fun E' w'=>∃(cs23:List Value) (K19:KMap) (B19:List Nat),E'=[(3,.slice (some ⟨g8,0,none⟩) m14 m14)]∧SH w K [] w' K19 [obj g8 cs23 61,bag B19]∧KLe K K19∧RowAt true tGDoc (K19.only B19) cs23 o16∧m14=o16.length) ?_ ?_
 ·refine wc_block ?_
  obtain⟨r27,h28,h29⟩:=ob h17
  refine wc_while' (fun (s26:Int×(List GDoc)) E' w'=>∃(cs36:List Value) (K30:KMap) (B30:List Nat),E'=[(0,.slice a1 n2 c3),(3,.slice (some ⟨g8,0,none⟩) m14 m14),(4,.int .i64 s26.1)]∧SH w K [] w' K30 [obj g8 cs36 61,bag B30]∧KLe K K30∧rng64 s26.1∧RowAt true tGDoc (K30.only B30) cs36 s26.2∧m14=s26.2.length) h28 ⟨cs9,K,[],u,(SH.perm (SH.bag0 hS12) (List.Perm.swap _ _ _)),(KLe.refl _),d_0,hrow11,hm15⟩ ⟨u,u,u,trivial⟩ ?_
  rintro s26 _ w33 r39 h40 hx41 ⟨cs36,K30,B30,rfl,hS34,hl31,hr35,hrow37,hm38⟩
  refine wc_seq ?_
  refine sr ?_
  refine vm u u ?_
  refine vm u u ?_
  refine wl_val wn u (rv_len (t:=tGDoc) Try.underlying31 u (SliceAt.mono hl31 hs4)) ?_
  refine wl_val wn u (rv_lss u u) ?_
  refine nq ?_
  refine wc_cond u (fun hb42=>?_) (fun hb42=>?_)
  ·have h43:=cond_t hb42 h40
   refine wc_skip ?_
   refine qs ?_
   refine wc_block ?_
   refine wc_region ?_
   refine vm u u ?_
   refine vm u u ?_
   refine vm u u ?_
   refine vm u u ?_
   obtain⟨x44,hx45,h46⟩:=ob h43
   refine wl_indexAddr (t:=tGDoc) wn u Try.underlying31 tf55 u u (SliceAt.mono hl31 hs4) hx45 ?_
   intro b47 o48 u49 hu50 ha51
   obtain⟨a53,n54,c55,a57,n58,c59,rfl,hr52,hs56,hs60⟩:=hu50
   have ha61:AtK _ b47 o48 [.int .i64 x44.Id,.slice a53 n54 c55,.slice a57 n58 c59]:=ha51
   refine wl_val wn u (rv_loadS (cs:=[.int .i64 x44.Id,.slice a53 n54 c55,.slice a57 n58 c59]) tf55 u hS34 ha61 u) ?_
   obtain⟨r62,hx63,h64⟩:=ob h46
   refine wl_call wn u (rt_call (vs:=[.agg #[.int .i64 x44.Id,.slice a53 n54 c55,.slice a57 n58 c59]]) co33 u) ((bag_laws_toDoc F) hS34.enter0 hr52 hs56 hs60 hx63) ?_
   rintro e77 w66 ⟨a69,n70,c71,a73,n74,c75,K65,B65,rfl,hS67,hr68,hs72,hs76⟩
   refine⟨_,u,?_⟩
   have hS78:SH _ _ _ _ _ [_,_]:=SH.bagJoin (SH.perm (SH.call0 hS34 hS67) (List.Perm.cons _ (List.Perm.swap _ _ _)))
   obtain⟨x79,hx80,h81⟩:=ob h64
   obtain⟨u82,hu83,hk84⟩:=RowAt.at (RowAt.mono (only_mono hS67.le fun _ h=>h) hrow37) hx80
   obtain⟨a87,n88,c89,a91,n92,c93,rfl,hr86,hs90,hs94⟩:=hu83
   have hk85: ∀(j:Nat) (d:Value),[.int .i64 x79.Id,.slice a87 n88 c89,.slice a91 n92 c93][j]? =some d→cs36[s26.1.toNat*tGDoc.size+j]? =some d:=hk84
   refine wl_val wn u (rv_indexRow (t:=tGDoc) Try.underlying33 tf61 u u hm38 hx80) ?_
   have hS95:SH _ _ _ _ _ [_,_]:=SH.front (p:=[_]) hS78
   refine wl_storeRow (t:=Ty.fix tGDoc (K65.only (B65++B30))) (v:=.agg #[.int .i64 r62.Id,.slice a69 n70 c71,.slice a73 n74 c75]) (e:=r62) wn tf61 u u ⟨a69,n70,c71,a73,n74,c75,u,hr68,(SliceAt.mono (only_mono (KLe.refl _) fun _ h=>List.mem_append_left _ h) hs72),(SliceAt.mono (only_mono (KLe.refl _) fun _ h=>List.mem_append_left _ h) hs76)⟩ hS95 (show RowAt true tGDoc (K65.only (B65++B30)) _ _ from RowAt.mono (only_mono hS67.le fun _ h=>List.mem_append_right _ h) hrow37) hx80 ?_
   intro cs96 w97 hrow98 hS99
   have hm100:=hm38.trans (List.length_set (i:=s26.1.toNat) (a:=r62)).symm
   refine nb ?_
   refine qe_seq ?_
   refine wc_region ?_
   refine vm u u ?_
   refine wl_val wn u (rv_add u u) ?_
   refine va u u ?_
   refine wl_nil ?_
   obtain rfl:=oi h81
   have hS101:=hS99
   exact qe_mid' ⟨_,u,cs96,K65,(B65++B30),u,hS101,(hl31.trans hS67.le),(w64_rng _),hrow98,hm100⟩ ⟨u,u,u,trivial⟩
  ·have h43:=cond_f hb42 h40
   refine wc_exit ?_
   refine qe_then_exit ?_
   refine qe_then_exit ?_
   obtain rfl:=oi h43
   have e102:=hx41 _ u
   subst e102
   refine qe_block_eq ?_
   obtain rfl:=oi h29
   exact qe_mid' ⟨cs36,K30,B30,u,hS34,hl31,hrow37,hm38⟩ ⟨u,trivial⟩
 ·rintro _ w21 ⟨cs23,K19,B19,rfl,hS22,hl20,hrow24,hm25⟩
  refine qr ?_
  refine vm u u ?_
  refine va u u ?_
  refine nq ?_
  refine wc_ret ?_
  obtain⟨K103,hl104,hs105,hS106⟩:=SH.freeze (t:=Ty.fix tGDoc (K19.only B19)) hS22 hrow24 (row_max hm25 hmx13)
  rw [←hm25] at hs105 hS106
  obtain rfl:=oi h18
  obtain⟨Bz,hSz,hBz⟩:=SH.bagTail hS106
  exact qe_ret (vs:=[_]) Try.results16 ⟨u,trivial⟩ ⟨(some ⟨g8,0,none⟩),m14,m14,K103,(Bz++B19),u,SH.bagJoin hSz,SliceAt.unfix hs105 (only_mono hl104 fun _ h=>List.mem_append_right _ h) (fun hc b o e=>List.mem_append_left _ (hBz hc b o e))⟩

theorem ok_impl_within {q0:Int}{q1:Int}{q2:Int}{r:Bool}(hS:SH w K [] w K [])(c:rng64 q0)(d:rng64 q1)(f:rng64 q2)(hm:M.impl_within F q0 q1 q2=some r):
  Calls prog 53 #[V6 q0,V6 q1,V6 q2] w (R_b w K r):=by
 rw [M.impl_within] at hm
 refine ci func53 u ntmps53 (sr (lv (r_f u) (nr (mv u (mv u (lv (rv_geq u u) (mv u (bt hm (fun a b=>?_) (fun a b=>?_)))))))))
 ·refine lg a (rv_move u) (lg a (rv_move u) (lg a (rv_leq u u) (lv (rv_pick_t u a u) (av u (nq (wc_ret ?_))))))
  cases oi b
  exact ey results53 ⟨K,u,hS⟩
 refine lu a (lu a (lu a (lv (p_f u a u) (av u (nq (wc_ret ?_))))))
 cases oi b
 exact ey results53 ⟨K,u,hS⟩

theorem ok_impl_wordByte {q0:UInt8}{r:Bool}(hS:SH w K [] w K [])(hm:M.impl_wordByte F q0=some r):
  Calls prog 69 #[iv8 q0] w (R_b w K r):=by
 rw [M.impl_wordByte] at hm
 refine ci func69 u ntmps69 (sr (lv (r_f u) (nr (mv u (lv (rv_bge (b:=(97:UInt8)) u u) (mv u (bt hm (fun c i=>?_) (fun c i=>?_))))))))
 ·refine lg c (rv_move u) (lg c (rv_ble (b:=(122:UInt8)) u u) (lv (rv_pick_t u c u) (mv u (bt i (fun a k=>?_) (fun a k=>?_)))))
  ·refine lu a (lu a (lu a (wl_un (uu u u) u (wl_un (uu u u) u (lu a (lv (p_t u a u) (av u (nq (wc_ret ?_)))))))))
   cases oi k
   exact ey results69 ⟨K,u,hS⟩
  refine lg a (rv_move u) (lg a (rv_bge (b:=(48:UInt8)) u u) (lg a (rv_move u) (bt k (fun d l=>?_) (fun d l=>?_))))
  ·refine lg d (rv_move u) (lg d (rv_ble (b:=(57:UInt8)) u u) (lg a (rv_pick_t u d u) (lv (rv_pick_f u a u) (av u (nq (wc_ret ?_))))))
   cases oi l
   exact ey results69 ⟨K,u,hS⟩
  refine lu d (lu d (lg a (p_f u d u) (lv (rv_pick_f u a u) (av u (nq (wc_ret ?_))))))
  cases oi l
  exact ey results69 ⟨K,u,hS⟩
 refine lu c (lu c (lv (p_f u c u) (mv u (lg u (rv_move u) (lg u (rv_bge (b:=(48:UInt8)) u u) (lg u (rv_move u) (bt i (fun f m=>?_) (fun f m=>?_))))))))
 ·refine lg f (rv_move u) (lg f (rv_ble (b:=(57:UInt8)) u u) (lg u (rv_pick_t u f u) (lv (rv_pick_f u u u) (av u (nq (wc_ret ?_))))))
  cases oi m
  exact ey results69 ⟨K,u,hS⟩
 refine lu f (lu f (lg u (p_f u f u) (lv (rv_pick_f u u u) (av u (nq (wc_ret ?_))))))
 cases oi m
 exact ey results69 ⟨K,u,hS⟩

theorem ok_impl_WordOk {q0:Str}{r:Bool}(hS:SH w K [] w K [])(f:q0.length≤maxLen)(hm:M.impl_WordOk F q0=some r):
  Calls prog 58 #[sv q0] w (R_b w K r):=by
 rw [M.impl_WordOk] at hm
 refine ci func58 u ntmps58 (sr (lv (r_f u) (nsr (mv u (lv (rv_slen underlying9 u) (lv (r_m u) (nq ?_)))))))
 obtain⟨y,A,a⟩:=ob hm
 refine wc_cutg (IE y w K [] K [(0,sv q0)] []) ?_ ?_
 ·refine wc_block ?_
  obtain⟨Y,B,i⟩:=ob A
  refine qf (fun (k:Nat) (l:Unit)=>IV w K [] K [(0,sv q0),(5,V6 (q0.length:Int)),(6,V6 ((k:Nat):Int))] []) B ⟨K,u,hS,kr⟩ ?_ ?_
  ·rintro k l _ C aa hi21 D G ⟨m,rfl,b,c⟩
   refine sr (lv (rv_lss u u) (ns (wc_cond_t u (decide_eq_true (by omega)) (wc_skip (qe_seq (wc_seq (wc_block (sr (mv u (av u (nr (mv u ?_))))))))))))
   refine mv u ?_
   obtain⟨ab,H,I⟩:=ob D
   refine lv (rv_sidx underlying9 u u H) ?_
   obtain⟨ac,J,O⟩:=ob I
   refine lk co69 (ok_impl_wordByte F b.enter0 J) ?_
   rintro ad ae ⟨o,rfl,q⟩
   have s:=(b.c0 q).t0
   refine lv (rv_not u) (nq (wcc O u (fun R d=>?_) (fun R d=>?_)))
   ·refine sr (lv (r_f u) (nq (wc_ret (qe_block_ret (qe_then_ret (qe_then_ret ?_))))))
    cases oi d
    cases G _ u
    refine qe_block_ret (qe_then_ret ?_)
    cases oi i
    refine qe_then_ret ?_
    cases oi a
    exact ey results58 ⟨o,u,s⟩
   refine wc_skip (qe_block (qg (lv (rv_add_to u u (w64_succ hi21 f)) (mv u (wl_nil ?_)))))
   cases oi d
   exact qd ⟨_,u,o,u,s,(c.trans q.le)⟩
  rintro l _ C S ⟨m,rfl,b,c⟩
  subst S
  refine sr (lv (rv_lss u u) (ns (wc_cond_f u (decide_eq_false (by omega)) (wc_exit (qe_then_exit (qe_then_exit (qe_block_eq ?_)))))))
  cases oi i
  exact qd ⟨_,m,u,u,b,c⟩
 rintro _ w9 ⟨s5,K6,rfl,rfl,x,ai⟩
 have a:=elim_l a
 refine qr (mv u (lv (rv_slen underlying9 u) ?_))
 obtain⟨aj,T,U⟩:=ob a
 refine lk co53 (ok_impl_within F x.enter0 (rng_nat f) (by decide :rng64 1) (by decide :rng64 12) T) ?_
 rintro ak al ⟨V,rfl,W⟩
 have X:=(x.c0 W).t0
 refine av u (nq (wc_ret ?_))
 cases oi U
 exact ey results58 ⟨V,u,X⟩

theorem ok_impl_TextOk {q0:Str}{r:Bool}(hS:SH w K [] w K [])(y:q0.length≤maxLen)(hm:M.impl_TextOk F q0=some r):
  Calls prog 66 #[sv q0] w (R_b w K r):=by
 rw [M.impl_TextOk] at hm
 refine ci func66 u ntmps66 (sr (lv (r_f u) (nsr (mv u (lv (rv_slen underlying9 u) (lv (r_m u) (nq ?_)))))))
 obtain⟨A,B,d⟩:=ob hm
 refine wc_cutg (IE A w K [] K [(0,sv q0)] []) ?_ ?_
 ·refine wc_block ?_
  obtain⟨ab,C,o⟩:=ob B
  refine qf (fun (i:Nat) (q:Unit)=>IV w K [] K [(0,sv q0),(5,V6 (q0.length:Int)),(6,V6 ((i:Nat):Int))] []) C ⟨K,u,hS,kr⟩ ?_ ?_
  ·rintro i q _ D ac hi21 G H ⟨c,rfl,f,k⟩
   refine sr (lv (rv_lss u u) (ns (wc_cond_t u (decide_eq_true (by omega)) (wc_skip (qe_seq (wc_seq (wc_block (sr (mv u (av u (ns ?_)))))))))))
   obtain⟨I,J,O⟩:=ob G
   refine wc_cutg (IV w K [] c [(0,sv q0),(5,V6 (q0.length:Int)),(6,V6 ((i:Nat):Int)),(18,.bool I)] []) ?_ ?_
   ·refine wc_region (mv u (mv u ?_))
    obtain⟨ad,R,S⟩:=ob J
    refine lv (rv_sidx underlying9 u u R) (lv (rv_bl (b:=(32:UInt8)) u u) (mv u (bt S (fun a l=>?_) (fun a l=>?_))))
    ·refine lu a (lu a (lu a (lu a (lv (p_t u a u) (wl_nil ?_)))))
     cases oi l
     exact qd ⟨c,u,f,kr⟩
    refine lg a (rv_move u) (lg a (rv_move u) ?_)
    obtain⟨ae,T,U⟩:=ob l
    refine lg a (rv_sidx underlying9 u u T) (lg a (rv_bg (b:=(126:UInt8)) u u) (lv (rv_pick_f u a u) (wl_nil ?_)))
    cases oi U
    exact qd ⟨c,u,f,kr⟩
   rintro _ af ⟨s,rfl,x,V⟩
   refine qe_seq (wcc O u (fun W m=>?_) (fun W m=>?_))
   ·refine sr (lv (r_f u) (nq (wc_ret (qe_block_ret (qe_then_ret (qe_then_ret ?_))))))
    cases oi m
    cases H _ u
    refine qe_block_ret (qe_then_ret ?_)
    cases oi o
    refine qe_then_ret ?_
    cases oi d
    exact ey results66 ⟨s,u,x⟩
   refine wc_skip (qe_block (qg (lv (rv_add_to u u (w64_succ hi21 y)) (mv u (wl_nil ?_)))))
   cases oi m
   exact qd ⟨_,u,s,u,x,(k.trans V)⟩
  rintro q _ D X ⟨c,rfl,f,k⟩
  subst X
  refine sr (lv (rv_lss u u) (ns (wc_cond_f u (decide_eq_false (by omega)) (wc_exit (qe_then_exit (qe_then_exit (qe_block_eq ?_)))))))
  cases oi o
  exact qd ⟨_,c,u,u,f,k⟩
 rintro _ w9 ⟨s5,Y,rfl,rfl,aa,ai⟩
 have d:=elim_l d
 refine qr (mv u (lv (rv_slen underlying9 u) (lv (rv_leq u u) (av u (nq (wc_ret ?_))))))
 cases oi d
 exact ey results66 ⟨Y,u,aa⟩

theorem ok_impl_DocOk {q0:GDoc}{r:Bool}(hS:SH w K [] w K [])(aH:rng64 q0.Id)(D:SliceAt tGField K A a b q0.Fields)(G:SliceAt tGAttr K B c d q0.Nums)(hm:M.impl_DocOk F q0=some r):
  Calls prog 52 #[.agg #[V6 q0.Id,V3 A a b,V3 B c d]] w (R_b w K r):=by
 rw [M.impl_DocOk] at hm
 refine ci func52 u ntmps52 (sr (bx u hS fun k cT aI=>?_))
 have Y:SH _ _ _ _ _ [obj k [V6 q0.Id,V3 A a b,V3 B c d] 61]:=aI
 refine lv (r_f u) (ns (wc_seq ?_))
 obtain⟨aJ,aK,aL⟩:=ob hm
 refine wc_cutg (IV w K [] K [(1,pt k),(22,.bool aJ)] [obj k [V6 q0.Id,V3 A a b,V3 B c d] 61]) ?_ ?_
 ·refine wc_region (fl ff61_0 u tf3 m0 Y u ?_)
  obtain⟨cU,aM,aN⟩:=ob aK
  refine lk co53 (ok_impl_within F Y.enter0 aH (by decide :rng64 1) (by decide :rng64 9999) aM) ?_
  rintro cV cW ⟨aa,rfl,C⟩
  have H:=(Y.c0 C).t1
  refine lv (rv_not u) (mv u (bt aN (fun o ab=>?_) (fun o ab=>?_)))
  ·refine lu o (lu o (lu o (lu o (lv (p_t u o u) (mv u (lu u (lu u (lu u (lu u ?_)))))))))
   refine lv (p_t u u u) (wl_nil ?_)
   cases oi ab
   exact qd ⟨aa,u,H,C.le⟩
  refine lg o (rv_fieldAddr ff61_1 u) (lg o (rv_loadm1 tf58 u m0 H u) (lg o (rv_len underlying58 u (D.mono C.le)) (lg o (rv_gtr u u) (lv (rv_pick_f u o u) (mv u (bt ab (fun q ac=>?_) (fun q ac=>?_)))))))
  ·refine lu q (lu q (lu q (lu q (lv (p_t u q u) (wl_nil ?_)))))
   cases oi ac
   exact qd ⟨aa,u,H,C.le⟩
  refine lg q (rv_fieldAddr ff61_2 u) (lg q (rv_loadm1 tf59 u m0 H u) (lg q (rv_len underlying59 u (G.mono C.le)) (lg q (rv_gtr u u) (lv (rv_pick_f u q u) (wl_nil ?_)))))
  cases oi ac
  exact qd ⟨aa,u,H,C.le⟩
 rintro _ cX ⟨O,rfl,ad,y⟩
 refine qe_seq (wcc aL u (fun aO ae=>?_) (fun aO ae=>?_))
 ·refine sr (lv (r_f u) (nq (rr ?_)))
  cases oi ae
  exact ey results52 ⟨O,u,ad.s⟩
 refine wc_skip (qs (sr (fl ff61_1 u tf58 m0 ad u (lv (rv_len underlying58 u (D.mono y)) (lv (r_m u) (nq ?_))))))
 obtain⟨aP,aQ,R⟩:=ob ae
 refine wc_cutg (IE aP w K [] O [(1,pt k)] [obj k [V6 q0.Id,V3 A a b,V3 B c d] 61]) ?_ ?_
 ·refine wc_block ?_
  obtain⟨cY,aR,aw⟩:=ob aQ
  refine qf (fun (af:Nat) (ax:Unit)=>IV w K [] O [(1,pt k),(24,V3 A a b),(25,V6 (q0.Fields.length:Int)),(26,V6 ((af:Nat):Int))] [obj k [V6 q0.Id,V3 A a b,V3 B c d] 61]) aR ⟨O,u,ad,kr⟩ ?_ ?_
  ·rintro af ax _ aS cZ hi54 aT aU ⟨ag,rfl,S,I⟩
   refine sr (lv (rv_lss u u) (ns (wc_cond_t u (decide_eq_true (by omega)) (wc_skip (qe_seq (wc_seq (wc_block (sr (mv u ?_)))))))))
   obtain⟨T,aV,aW⟩:=ob aT
   refine li underlying58 tf82 (D.mono (y.trans I)) aV fun aX aY da aZ ba=>?_
   obtain⟨rfl,bb,bc⟩:=aZ
   have bd:AtK _ aX aY [sv T.Name,sv T.Text]:=ba
   refine lv (rv_loadS tf82 u S bd u) (al tf82 S fun be db bf=>?_)
   have bg:SH _ _ _ _ _ [obj be [sv [],sv []] 82,_]:=bf
   refine av u (lw [sv T.Name,sv T.Text] tf82 bg fun dc bh=>(ns ?_))
   obtain⟨bi,bj,bk⟩:=ob aW
   refine wc_cutg (IV w K [] ag [(1,pt k),(24,V3 A a b),(25,V6 (q0.Fields.length:Int)),(26,V6 ((af:Nat):Int)),(56,.bool bi)] [obj k [V6 q0.Id,V3 A a b,V3 B c d] 61]) ?_ ?_
   ·refine wc_quiet mixed (by kernel_rfl) bh (kv (rv_fieldAddr ff82_0 u) (kh (rq_loadm1 tf9 u m0 u) ?_))
    obtain⟨dd,bl,bm⟩:=ob bj
    refine kc co58 (fun _ _ bn de=>(ok_impl_WordOk F) bn.enter0 bb bl) (kv (rv_not u) (km u (bt bm (fun s ah=>?_) (fun s ah=>?_))))
    ·refine kn s (kn s (kn s (kn s (kv (p_t u s u) (km u (qv u u u u (qv u u u u (qv u u u u ?_))))))))
     iterate 10 refine ku ?_
     refine qv u u u u (kv (p_t u u u) (wq_nil ?_))
     rintro df ⟨bo,bp,bq⟩
     cases oi ah
     exact qd ⟨bo,u,bp.s,bq⟩
    refine kg s (rv_fieldAddr ff82_1 u) (kgh s (rq_loadm1 tf9 u m0 u) ?_)
    obtain⟨dg,br,bs⟩:=ob ah
    refine kcg s co66 (fun _ _ bu dh=>(ok_impl_TextOk F) bu.enter0 bc br) (kg s (rv_not u) (kv (rv_pick_f u s u) (km u (bt bs (fun l ai=>?_) (fun l ai=>?_)))))
    ·refine kn l (kn l (kn l ?_))
     iterate 10 refine ku ?_
     refine kn l (kv (p_t u l u) (wq_nil ?_))
     rintro di ⟨bv,bz,bA⟩
     cases oi ai
     exact qd ⟨bv,u,bz.s,bA⟩
    refine kg l (rv_move u) (kg l (rv_gtr u u) (kg l (rv_move u) (bt ai (fun f aj=>?_) (fun f aj=>?_))))
    ·refine kg f (rv_fieldAddr ff61_1 u) (kgh f (rq_loadm1 tf58 u m1 u) (kg f (rv_move u) (kg f (rv_sub u u) ?_)))
     obtain⟨ay,bB,bC⟩:=ob aj
     refine wq_indexAddr (t:=tGField) (wg u u f) u underlying58 tf82 u u (D.mono (y.trans I)) bB fun bD bE dj bF bG=>?_
     obtain⟨rfl,dk,dl⟩:=bF
     have bH:AtK _ bD bE [sv ay.Name,sv ay.Text]:=bG
     refine kg f (rv_fieldAddr ff82_0 u) (kgh f (rq_load1 tf9 u (bH 0 _ u)) (kg f (rv_fieldAddr ff82_0 u) (kgh f (rq_loadm1 tf9 u m0 u) (kg f (rv_sgeq u u) (kg l (rv_pick_t u f u) (kv (rv_pick_f u l u) (wq_nil ?_)))))))
     rintro dm ⟨bI,bJ,bK⟩
     cases oi bC
     exact qd ⟨bI,u,bJ.s,bK⟩
    iterate 10 refine kn f ?_
    refine kg l (p_f u f u) (kv (rv_pick_f u l u) (wq_nil ?_))
    rintro dn ⟨bL,bM,bN⟩
    cases oi aj
    exact qd ⟨bL,u,bM.s,bN⟩
   rintro _ dp ⟨az,rfl,aA,bO⟩
   refine qe_seq (wcc bk u (fun bP ak=>?_) (fun bP ak=>?_))
   ·refine sr (lv (r_f u) (nq (wc_ret (qe_block_ret (qe_then_ret (qe_then_ret ?_))))))
    cases oi ak
    cases aU _ u
    refine qe_block_ret (qe_then_ret ?_)
    cases oi aw
    refine qe_then_ret ?_
    cases oi R
    exact ey results52 ⟨az,u,aA.s⟩
   refine wc_skip (qe_block (qg (lv (rv_add_to u u (w64_succ hi54 (SliceAt.max (D.mono y)))) (mv u (wl_nil ?_)))))
   cases oi ak
   exact qd ⟨_,u,az,u,aA,(I.trans bO)⟩
  rintro ax _ aS bQ ⟨ag,rfl,S,I⟩
  subst bQ
  refine sr (lv (rv_lss u u) (ns (wc_cond_f u (decide_eq_false (by omega)) (wc_exit (qe_then_exit (qe_then_exit (qe_block_eq ?_)))))))
  cases oi aw
  exact qd ⟨_,ag,u,u,S,I⟩
 rintro _ dq ⟨dr,am,rfl,rfl,aB,U⟩
 have R:=elim_l R
 refine qs (sr (fl ff61_2 u tf59 m0 aB u (lv (rv_len underlying59 u (G.mono (y.trans U))) (lv (r_m u) (nq ?_)))))
 obtain⟨bR,bS,V⟩:=ob R
 refine wc_cutg (IE bR w K [] am [] []) ?_ ?_
 ·refine wc_block ?_
  obtain⟨ds,bT,aC⟩:=ob bS
  refine qf (fun (an:Nat) (aD:Unit)=>IV w K [] am [(1,pt k),(59,V3 B c d),(60,V6 (q0.Nums.length:Int)),(61,V6 ((an:Nat):Int))] [obj k [V6 q0.Id,V3 A a b,V3 B c d] 61]) bT ⟨am,u,aB,kr⟩ ?_ ?_
  ·rintro an aD _ bU dt hi156 bV bW ⟨ao,rfl,W,J⟩
   refine sr (lv (rv_lss u u) (ns (wc_cond_t u (decide_eq_true (by omega)) (wc_skip (qe_seq (wc_seq (wc_block (sr (mv u ?_)))))))))
   obtain⟨X,bX,bY⟩:=ob bV
   refine li underlying59 tf84 (G.mono ((y.trans U).trans J)) bX fun bZ ca du cb cc=>?_
   obtain⟨rfl,cd,ce⟩:=cb
   have cf:AtK _ bZ ca [sv X.Name,V6 X.Num]:=cc
   refine lv (rv_loadS tf84 u W cf u) (al tf84 W fun cg dv ch=>?_)
   have cj:SH _ _ _ _ _ [obj cg [sv [],V6 0] 84,_]:=ch
   refine av u (lw [sv X.Name,V6 X.Num] tf84 cj fun dw ck=>(ns ?_))
   obtain⟨cl,cm,cn⟩:=ob bY
   refine wc_cutg (IV w K [] ao [(1,pt k),(59,V3 B c d),(60,V6 (q0.Nums.length:Int)),(61,V6 ((an:Nat):Int)),(91,.bool cl)] [obj k [V6 q0.Id,V3 A a b,V3 B c d] 61]) ?_ ?_
   ·refine wc_quiet mixed (by kernel_rfl) ck (kv (rv_fieldAddr ff84_0 u) (kh (rq_loadm1 tf9 u m0 u) ?_))
    obtain⟨dx,cp,cq⟩:=ob cm
    refine kc co58 (fun _ _ cr dy=>(ok_impl_WordOk F) cr.enter0 cd cp) (kv (rv_not u) (km u (bt cq (fun x ap=>?_) (fun x ap=>?_))))
    ·refine kn x (kn x (kn x (kn x (kv (p_t u x u) (km u (qv u u u u (qv u u u u (qv u u u u ?_))))))))
     iterate 10 refine ku ?_
     refine qv u u u u (kv (p_t u u u) (wq_nil ?_))
     rintro dz ⟨cs,ct,cu⟩
     cases oi ap
     exact qd ⟨cs,u,ct.s,cu⟩
    refine kg x (rv_fieldAddr ff84_1 u) (kgh x (rq_loadm1 tf3 u m0 u) ?_)
    obtain⟨dA,cv,cw⟩:=ob ap
    refine kcg x co53 (fun _ _ cx dB=>(ok_impl_within F) cx.enter0 ce d_0 (by decide :rng64 999999999) cv) (kg x (rv_not u) (kv (rv_pick_f u x u) (km u (bt cw (fun m aq=>?_) (fun m aq=>?_)))))
    ·refine kn m (kn m (kn m ?_))
     iterate 10 refine ku ?_
     refine kn m (kv (p_t u m u) (wq_nil ?_))
     rintro dC ⟨cy,cz,cA⟩
     cases oi aq
     exact qd ⟨cy,u,cz.s,cA⟩
    refine kg m (rv_move u) (kg m (rv_gtr u u) (kg m (rv_move u) (bt aq (fun i ar=>?_) (fun i ar=>?_))))
    ·refine kg i (rv_fieldAddr ff61_2 u) (kgh i (rq_loadm1 tf59 u m1 u) (kg i (rv_move u) (kg i (rv_sub u u) ?_)))
     obtain⟨aE,cB,cC⟩:=ob ar
     refine wq_indexAddr (t:=tGAttr) (wg u u i) u underlying59 tf84 u u (G.mono ((y.trans U).trans J)) cB fun cD cE dD cF cG=>?_
     obtain⟨rfl,dE,dF⟩:=cF
     have cH:AtK _ cD cE [sv aE.Name,V6 aE.Num]:=cG
     refine kg i (rv_fieldAddr ff84_0 u) (kgh i (rq_load1 tf9 u (cH 0 _ u)) (kg i (rv_fieldAddr ff84_0 u) (kgh i (rq_loadm1 tf9 u m0 u) (kg i (rv_sgeq u u) (kg m (rv_pick_t u i u) (kv (rv_pick_f u m u) (wq_nil ?_)))))))
     rintro dG ⟨cI,cJ,cK⟩
     cases oi cC
     exact qd ⟨cI,u,cJ.s,cK⟩
    iterate 10 refine kn i ?_
    refine kg m (p_f u i u) (kv (rv_pick_f u m u) (wq_nil ?_))
    rintro dH ⟨cL,cM,cN⟩
    cases oi ar
    exact qd ⟨cL,u,cM.s,cN⟩
   rintro _ dI ⟨aF,rfl,aG,cO⟩
   refine qe_seq (wcc cn u (fun cP au=>?_) (fun cP au=>?_))
   ·refine sr (lv (r_f u) (nq (wc_ret (qe_block_ret (qe_then_ret (qe_then_ret ?_))))))
    cases oi au
    cases bW _ u
    refine qe_block_ret (qe_then_ret ?_)
    cases oi aC
    refine qe_then_ret ?_
    cases oi V
    exact ey results52 ⟨aF,u,aG.s⟩
   refine wc_skip (qe_block (qg (lv (rv_add_to u u (w64_succ hi156 (SliceAt.max (G.mono (y.trans U))))) (mv u (wl_nil ?_)))))
   cases oi au
   exact qd ⟨_,u,aF,u,aG,(J.trans cO)⟩
  rintro aD _ bU cQ ⟨ao,rfl,W,J⟩
  subst cQ
  refine sr (lv (rv_lss u u) (ns (wc_cond_f u (decide_eq_false (by omega)) (wc_exit (qe_then_exit (qe_then_exit (qe_block_eq ?_)))))))
  cases oi aC
  exact qe_mid' ⟨_,ao,u,u,W.s,J⟩ trivial
 rintro _ dJ ⟨dK,cR,rfl,rfl,cS,dL⟩
 have V:=elim_l V
 refine qr (lv (r_t u) (nq (wc_ret ?_)))
 cases oi V
 exact ey results52 ⟨cR,u,cS⟩

theorem ok_impl_DocsOk {q0:List GDoc}{r:Bool}(hS:SH w K [] w K [])(f:SliceAt tGDoc K A a b q0)(hm:M.impl_DocsOk F q0=some r):
  Calls prog 34 #[V3 A a b] w (R_b w K r):=by
 rw [M.impl_DocsOk] at hm
 refine ci func34 u ntmps34 (sr (lv (r_f u) (nsr (mv u (lv (rv_len underlying33 u f) (lv (r_m u) (nq ?_)))))))
 obtain⟨U,V,k⟩:=ob hm
 refine wc_cutg (IE U w K [] K [(0,V3 A a b)] []) ?_ ?_
 ·refine wc_block ?_
  obtain⟨bc,W,J⟩:=ob V
  refine qf (fun (m:Nat) (O:Unit)=>IV w K [] K [(0,V3 A a b),(5,V3 A a b),(6,V6 (q0.length:Int)),(7,V6 ((m:Nat):Int))] []) W ⟨K,u,hS,kr⟩ ?_ ?_
  ·rintro m O _ X bd hi23 Y aa ⟨o,rfl,l,i⟩
   refine sr (lv (rv_lss u u) (ns (wc_cond_t u (decide_eq_true (by omega)) (wc_skip (qe_seq (wc_seq (wc_block (sr (mv u ?_)))))))))
   obtain⟨q,ab,ac⟩:=ob Y
   refine li underlying33 tf61 (f.mono i) ab fun ad ae be af ag=>?_
   obtain⟨s,x,y,B,C,D,rfl,ah,ai,aj⟩:=af
   have ak:AtK _ ad ae [V6 q.Id,V3 s x y,V3 B C D]:=ag
   refine lv (rv_loadS tf61 u l ak u) (al tf61 l fun am bf an=>?_)
   have ao:SH _ _ _ _ _ [obj am [V6 0,V3 none 0 0,V3 none 0 0] 61]:=an
   refine av u (lw [V6 q.Id,V3 s x y,V3 B C D] tf61 ao fun bg ap=>(ns ?_))
   obtain⟨aq,ar,au⟩:=ob ac
   refine wc_cutg (IV w K [] o [(0,V3 A a b),(5,V3 A a b),(6,V6 (q0.length:Int)),(7,V6 ((m:Nat):Int)),(29,.bool aq)] []) ?_ ?_
   ·refine wc_quiet mixed (by kernel_rfl) ap (kh (rq_loadmS (ds:=[V6 q.Id,V3 s x y,V3 B C D]) tf61 u m0 u u) ?_)
    obtain⟨bh,aw,ax⟩:=ob ar
    refine kc co52 (fun _ _ ay R=>(ok_impl_DocOk F) ay.enter0 ah (ai.mono R) (aj.mono R) aw) (kv (rv_not u) (km u (bt ax (fun c G=>?_) (fun c G=>?_))))
    ·refine kn c (kn c (kn c ?_))
     iterate 9 refine ku ?_
     refine kn c (kv (p_t u c u) (wq_nil ?_))
     rintro bi ⟨az,aA,aB⟩
     cases oi G
     exact qd ⟨az,u,aA.s,aB⟩
    refine kg c (rv_move u) (kg c (rv_gtr u u) (kg c (rv_move u) (bt G (fun d H=>?_) (fun d H=>?_))))
    ·refine kg d (rv_move u) (kg d (rv_move u) (kg d (rv_sub u u) ?_))
     obtain⟨aC,aD,aE⟩:=ob H
     refine wq_indexAddr (t:=tGDoc) (wg u u d) u underlying33 tf61 u u (f.mono i) aD fun aF aG bj aH aI=>?_
     obtain⟨aJ,aK,aL,aM,aN,aO,rfl,bk,bl,bm⟩:=aH
     have aP:AtK _ aF aG [V6 aC.Id,V3 aJ aK aL,V3 aM aN aO]:=aI
     refine kg d (rv_fieldAddr ff61_0 u) (kgh d (rq_load1 tf3 u (aP 0 _ u)) (kg d (rv_fieldAddr ff61_0 u) (kgh d (rq_loadm1 tf3 u m0 u) (kg d (rv_geq u u) (kg c (rv_pick_t u d u) (kv (rv_pick_f u c u) (wq_nil ?_)))))))
     rintro bn ⟨aQ,aR,aS⟩
     cases oi aE
     exact qd ⟨aQ,u,aR.s,aS⟩
    iterate 9 refine kn d ?_
    refine kg c (p_f u d u) (kv (rv_pick_f u c u) (wq_nil ?_))
    rintro bo ⟨aT,aU,aV⟩
    cases oi H
    exact qd ⟨aT,u,aU.s,aV⟩
   rintro _ bp ⟨S,rfl,T,aW⟩
   refine qe_seq (wcc au u (fun aX I=>?_) (fun aX I=>?_))
   ·refine sr (lv (r_f u) (nq (wc_ret (qe_block_ret (qe_then_ret (qe_then_ret ?_))))))
    cases oi I
    cases aa _ u
    refine qe_block_ret (qe_then_ret ?_)
    cases oi J
    refine qe_then_ret ?_
    cases oi k
    exact ey results34 ⟨S,u,T⟩
   refine wc_skip (qe_block (qg (lv (rv_add_to u u (w64_succ hi23 (SliceAt.max f))) (mv u (wl_nil ?_)))))
   cases oi I
   exact qd ⟨_,u,S,u,T,(i.trans aW)⟩
  rintro O _ X aY ⟨o,rfl,l,i⟩
  subst aY
  refine sr (lv (rv_lss u u) (ns (wc_cond_f u (decide_eq_false (by omega)) (wc_exit (qe_then_exit (qe_then_exit (qe_block_eq ?_)))))))
  cases oi J
  exact qd ⟨_,o,u,u,l,i⟩
 rintro _ bq ⟨s8,K9,rfl,rfl,ba,bb⟩
 have k:=elim_l k
 refine qr (mv u (lv (rv_len underlying33 u (f.mono bb)) (lv (rv_leq u u) (av u (nq (wc_ret ?_))))))
 cases oi k
 exact ey results34 ⟨K9,u,ba⟩

theorem ok_impl_shardOk {q0:Int}{q1:Int}{r:Bool}(hS:SH w K [] w K [])(d:rng64 q0)(f:rng64 q1)(hm:M.impl_shardOk F q0 q1=some r):
  Calls prog 35 #[V6 q0,V6 q1] w (R_b w K r):=by
 rw [M.impl_shardOk] at hm
 refine ci func35 u ntmps35 (sr (lv (r_f u) (nr (mv u ?_))))
 obtain⟨A,i,k⟩:=ob hm
 refine lk co53 (ok_impl_within F hS.enter0 d (by decide :rng64 1) (by decide :rng64 4) i) ?_
 rintro B C ⟨l,rfl,m⟩
 have b:=(hS.c0 m).t0
 refine mv u (bt k (fun a c=>?_) (fun a c=>?_))
 ·refine lg a (rv_move u) (lg a (rv_move u) (lg a (rv_sub u u) ?_))
  obtain⟨D,o,q⟩:=ob c
  refine wl_call (wg u u a) u (rt_call (vs:=[V6 q1,V6 0,V6 (w64 (q0-(1:Int)))]) co53 u) (ok_impl_within F b.enter0 f d_0 (w64_rng _) o) ?_
  rintro G H ⟨s,rfl,x⟩
  refine⟨_,u,?_⟩
  have y:=(b.c0 x).t0
  refine lv (rv_pick_t u a u) (av u (nq (wc_ret ?_)))
  cases oi q
  exact ey results35 ⟨s,u,y⟩
 refine lu a (lu a (lu a (lu a (lv (p_f u a u) (av u (nq (wc_ret ?_)))))))
 cases oi c
 exact ey results35 ⟨l,u,b⟩

theorem ok_impl_cloneDoc {q0:GDoc}{r:GDoc}(hS:SH w K [] w K [])(G:rng64 q0.Id)(H:SliceAt tGField K A a b q0.Fields)(I:SliceAt tGAttr K B c d q0.Nums)(hm:M.impl_cloneDoc F q0=some r):
  Calls prog 36 #[.agg #[V6 q0.Id,V3 A a b,V3 B c d]] w fun e w'=>∃a_2 n_3 c_4 a_6 n_7 c_8 K',e= .returned (.agg #[V6 r.Id,V3 a_2 n_3 c_4,V3 a_6 n_7 c_8])∧SH w K [] w' K' [tail (V3 a_2 n_3 c_4) 82 2,tail (V3 a_6 n_7 c_8) 84 2]∧rng64 r.Id∧SliceAt tGField K' a_2 n_3 c_4 r.Fields∧SliceAt tGAttr K' a_6 n_7 c_8 r.Nums:=by
 rw [M.impl_cloneDoc] at hm
 refine ci func36 u ntmps36 (sr (bx u hS fun aC aX aE=>?_))
 have aF:SH _ _ _ _ _ [obj aC [V6 q0.Id,V3 A a b,V3 B c d] 61]:=aE
 refine al tf61 aF fun aG aY aH=>?_
 have aI:SH _ _ _ _ _ [obj aG [V6 0,V3 none 0 0,V3 none 0 0] 61,_]:=aH
 refine ns ?_
 obtain⟨aZ,J,aJ⟩:=ob hm
 obtain⟨ba,O,R⟩:=ob aJ
 have v:=aI.drew
 refine j_0 (fun w'=>Holds K w'∧HasObj aC [V6 q0.Id,V3 A a b,V3 B c d] w') 12 [] mixed ⟨v.hasK kr,v.hasObj m1⟩ (jv 0 u (rv_fieldAddr ff61_0 u) (jh 1 u (fun _ h=>rh_loadm1 tf3 u u h.2) (jv 3 u (rv_fieldAddr ff61_1 u) (jh 4 u (fun _ h=>rh_loadm1 tf58 u u h.2) (jv 7 u (rv_fieldAddr ff61_2 u) (jh 8 u (fun _ h=>rh_loadm1 tf59 u u h.2) (j2 2 6 u u ?_ ?_)))))))
 ·refine b0 tGField underlying58 tf82 v fun bb bc bd f aD x=>(j_o ⟨x.hasK f,x.hasObj m2⟩ (j2 5 6 u u ?_ ?_))
  ·refine lp underlying58 tf82 aD (H.mono f) J x fun S T U be bf m aK V=>(j_o ⟨V.hasK (f.trans m),V.hasObj m2⟩ (j1 6 u (b0 tGAttr underlying59 tf84 V fun bg bh bi o aL W=>(j_o ⟨W.hasK ((f.trans m).trans o),W.hasObj m3⟩ (j1 9 u (lp underlying59 tf84 aL (I.mono ((f.trans m).trans o)) O W fun X Y aa bj aM ab aN ac=>(j_o ⟨ac.hasK (((f.trans m).trans o).trans ab),ac.hasObj m3⟩ (jv 10 u (rv_build (cs:=#[V6 q0.Id,V3 S T U,V3 X Y aa]) sp61 tf61 u (by kernel_rfl)) (j1 11 u ?_)))))))))
   refine lw [V6 q0.Id,V3 S T U,V3 X Y aa] tf61 ac.f2 fun bk y=>(j_o ⟨y.hasK (((f.trans m).trans o).trans ab),y.hasObj m3⟩ (jd (qe_seq (wc_ret ?_))))
   cases oi R
   exact ez results36 tf61 y m0 ⟨S,T,U,X,Y,aa,aM,u,y.f1.f2.s,G,(aK.mono (o.trans ab)),aN⟩
  refine b0 tGAttr underlying59 tf84 x fun bl bm bn i aO ad=>(j_o ⟨ad.hasK (f.trans i),ad.hasObj m3⟩ (j1 5 u (lp underlying58 tf82 (aD.mono i) (H.mono (f.trans i)) J ad.f1 fun ae af ag bo bp q aP ah=>(j_o ⟨ah.hasK ((f.trans i).trans q),ah.hasObj m3⟩ (j1 9 u (lp underlying59 tf84 (aO.mono q) (I.mono ((f.trans i).trans q)) O ah.f1 fun ai aj ak bq aQ am aR an=>(j_o ⟨an.hasK (((f.trans i).trans q).trans am),an.hasObj m3⟩ (jv 10 u (rv_build (cs:=#[V6 q0.Id,V3 ae af ag,V3 ai aj ak]) sp61 tf61 u (by kernel_rfl)) (j1 11 u ?_)))))))))
  refine lw [V6 q0.Id,V3 ae af ag,V3 ai aj ak] tf61 an.f2 fun br C=>(j_o ⟨C.hasK (((f.trans i).trans q).trans am),C.hasObj m3⟩ (jd (qe_seq (wc_ret ?_))))
  cases oi R
  exact ez results36 tf61 C m0 ⟨ae,af,ag,ai,aj,ak,aQ,u,C.f1.f2.s,G,(aP.mono am),aR⟩
 refine b0 tGAttr underlying59 tf84 v fun bs bu bv k aS ao=>(j_o ⟨ao.hasK k,ao.hasObj m2⟩ (j1 2 u (b0 tGField underlying58 tf82 ao fun bz bA bB l aT ap=>(j_o ⟨ap.hasK (k.trans l),ap.hasObj m3⟩ (j1 5 u (lp underlying58 tf82 aT (H.mono (k.trans l)) J ap fun aq ar au bC bD s aU aw=>(j_o ⟨aw.hasK ((k.trans l).trans s),aw.hasObj m3⟩ (j1 9 u (lp underlying59 tf84 (aS.mono (l.trans s)) (I.mono ((k.trans l).trans s)) O aw.f1 fun ax ay az bE aV aA aW aB=>?_)))))))))
 refine j_o ⟨aB.hasK (((k.trans l).trans s).trans aA),aB.hasObj m3⟩ (jv 10 u (rv_build (cs:=#[V6 q0.Id,V3 aq ar au,V3 ax ay az]) sp61 tf61 u (by kernel_rfl)) (j1 11 u (lw [V6 q0.Id,V3 aq ar au,V3 ax ay az] tf61 aB.f2 fun bF D=>(j_o ⟨D.hasK (((k.trans l).trans s).trans aA),D.hasObj m3⟩ (jd (qe_seq (wc_ret ?_)))))))
 cases oi R
 exact ez results36 tf61 D m0 ⟨aq,ar,au,ax,ay,az,aV,u,D.f1.f2.s,G,(aU.mono aA),aW⟩

set_option maxHeartbeats 2000000 in
theorem own_impl_ShardOf (F:Nat){w:World}{K:KMap}{a1:Option Addr}{n2 c3:Nat}{p0_docs:List GDoc}{p1_many:Int}{p2_which:Int}{r:(List GDoc)}(hS:SH w K [] w K [])(hs4:SliceAt tGDoc K a1 n2 c3 p0_docs)(hr5:rng64 p1_many)(hr6:rng64 p2_which)(hm:M.impl_ShardOf F p0_docs p1_many p2_which=some r):
  Calls Try.prog 17 #[.slice a1 n2 c3,.int .i64 p1_many,.int .i64 p2_which] w fun e w'=>∃(a_1:Option Addr) (n_2 c_3:Nat) (K':KMap) (f':List Nat),e= .returned (.slice a_1 n_2 c_3)∧SH w K [] w' K' [bag f']∧RowO oDoc K' f' (.slice a_1 n_2 c_3) r:=by
 rw [M.impl_ShardOf] at hm
 refine calls_in Try.func17 rfl Try.ntmps17 rfl ?_
 refine sr ?_
 refine wl_val wn rfl (rv_assign (v:=.slice none 0 0) rfl) ?_
 refine nr ?_
 refine wl_buildSlice0 tGDoc wn rfl Try.underlying33 tf61 hS ?_
 intro a7 w9 K10 hl11 hs12 hS13
 refine va rfl rfl ?_
 refine ns ?_
 refine wc_seq ?_
 obtain⟨o14,h15,h16⟩:=ob hm
 refine wc_cutg (fun E' w'=>∃(K17:KMap),E'=[(0,.slice a1 n2 c3),(1,.int .i64 p1_many),(2,.int .i64 p2_which),(7,.slice a7 0 0),(19,.bool o14)]∧SH w K [] w' K17 [tail (.slice a7 0 0) 61 3]∧KLe K10 K17) ?_ ?_
 ·refine wc_region ?_
  refine vm rfl rfl ?_
  obtain⟨r21,hx22,h23⟩:=ob h15
  refine wl_call wn rfl (rt_call (vs:=[.slice a1 n2 c3]) co34 rfl) ((ok_impl_DocsOk F) hS13.enter0 (SliceAt.mono hl11 hs4) hx22) ?_
  rintro e27 w25 ⟨K24,rfl,hS26⟩
  refine⟨_,rfl,?_⟩
  have hS28:SH _ _ _ _ _ [_]:=SH.call0 hS13 hS26
  refine wl_val wn rfl (rv_not rfl) ?_
  refine vm rfl rfl ?_
  rcases bool_tf ((!r21)) with hb29 | hb29
  ·have h30:=cond_t hb29 h23
   refine wl_un (ug rfl rfl hb29) rfl ?_
   refine wl_un (ug rfl rfl hb29) rfl ?_
   refine wl_un (ug rfl rfl hb29) rfl ?_
   refine wl_un (ug rfl rfl hb29) rfl ?_
   refine wl_val wn rfl (p_t rfl hb29 rfl) ?_
   refine wl_nil ?_
   obtain rfl:=oi h30
   exact qe_mid' ⟨K24,rfl,hS28,hS26.le⟩ ⟨rfl,rfl,rfl,rfl,rfl,trivial⟩
  ·have h30:=cond_f hb29 h23
   refine wl_val (wg rfl rfl hb29) rfl (rv_move rfl) ?_
   refine wl_val (wg rfl rfl hb29) rfl (rv_move rfl) ?_
   obtain⟨r31,hx32,h33⟩:=ob h30
   refine wl_call (wg rfl rfl hb29) rfl (rt_call (vs:=[.int .i64 p1_many,.int .i64 p2_which]) co35 rfl) ((ok_impl_shardOk F) hS28.enter0 hr5 hr6 hx32) ?_
   rintro e37 w35 ⟨K34,rfl,hS36⟩
   refine⟨_,rfl,?_⟩
   have hS38:SH _ _ _ _ _ [_]:=SH.call0 hS28 hS36
   refine wl_val (wg rfl rfl hb29) rfl (rv_not rfl) ?_
   refine wl_val wn rfl (rv_pick_f rfl hb29 rfl) ?_
   refine wl_nil ?_
   obtain rfl:=oi h33
   exact qe_mid' ⟨K34,rfl,hS38,(hS26.le.trans hS36.le)⟩ ⟨rfl,rfl,rfl,rfl,rfl,trivial⟩
 ·rintro _ w19 ⟨K17,rfl,hS20,hl18⟩
  refine qe_seq ?_
  refine wc_cond rfl (fun hb39=>?_) (fun hb39=>?_)
  ·have h40:=cond_t hb39 h16
   refine sr ?_
   refine vm rfl rfl ?_
   refine va rfl rfl ?_
   refine nq ?_
   refine rr ?_
   obtain rfl:=oi h40
   obtain⟨ff0,hSf0,hRf0⟩:=SH.ownS (SH.bagAdd hS20) (OwnS.none (o:=oDoc) (SliceAt.mono hl18 hs12))
   exact qe_ret (vs:=[_]) Try.results17 ⟨rfl,trivial⟩ ⟨a7,0,0,K17,ff0,rfl,hSf0,hRf0⟩
  ·have h40:=cond_f hb39 h16
   refine wc_skip ?_
   refine qs ?_
   refine sr ?_
   refine vm rfl rfl ?_
   refine wl_val wn rfl (rv_len (t:=tGDoc) Try.underlying33 rfl (SliceAt.mono (hl11.trans hl18) hs4)) ?_
   refine wl_val wn rfl (rv_move (v:=.int .i64 0) rfl) ?_
   refine nq ?_
   obtain⟨o41,h42,h43⟩:=ob h40
   refine wc_cutg (fun E' w'=>∃(a48:Option Addr) (n49 c50:Nat) (K44:KMap) (B48:List Nat),E'=[(7,.slice a48 n49 c50)]∧SH w K [] w' K44 [tail (.slice a48 n49 c50) 61 3,bag B48]∧KLe K17 K44∧OwnS oDoc K44 a48 n49 c50 B48 o41) ?_ ?_
   ·refine wc_block ?_
    obtain⟨r53,h54,h55⟩:=ob h42
    refine wc_forE' (fun (i56:Nat) (s52:(List GDoc)) E' w'=>∃(a61:Option Addr) (n62 c63:Nat) (K57:KMap) (B61:List Nat),E'=[(1,.int .i64 p1_many),(2,.int .i64 p2_which),(7,.slice a61 n62 c63),(21,.slice a1 n2 c3),(22,.int .i64 (p0_docs.length:Int)),(23,.int .i64 ((i56:Nat):Int))]∧SH w K [] w' K57 [tail (.slice a61 n62 c63) 61 3,bag B61]∧KLe K17 K57∧OwnS oDoc K57 a61 n62 c63 B61 s52) h54 ⟨a7,0,0,K17,[],rfl,SH.bagAdd hS20,(KLe.refl _),OwnS.none (o:=oDoc) (SliceAt.mono hl18 hs12)⟩ ⟨rfl,rfl,rfl,rfl,rfl,rfl,trivial⟩ ?_ ?_
    ·rintro i56 s52 _ w59 r65 hi66 h67 ⟨a61,n62,c63,K57,B61,rfl,hS60,hl58,hs64⟩
     refine sr ?_
     refine wl_val wn rfl (rv_lss rfl rfl) ?_
     refine ns ?_
     refine wc_cond_t rfl (decide_eq_true (by omega)) (wc_skip (qe_seq (wc_seq ?_)))
     refine wc_block ?_
     refine sr ?_
     obtain⟨x69,hx70,h71⟩:=ob h67
     refine wl_indexAddr (t:=tGDoc) wn rfl Try.underlying33 tf61 rfl rfl (SliceAt.mono ((hl11.trans hl18).trans hl58) hs4) hx70 ?_
     intro b72 o73 u74 hu75 ha76
     obtain⟨a78,n79,c80,a82,n83,c84,rfl,hr77,hs81,hs85⟩:=hu75
     have ha86:AtK _ b72 o73 [.int .i64 x69.Id,.slice a78 n79 c80,.slice a82 n83 c84]:=ha76
     refine wl_val wn rfl (rv_loadS (cs:=[.int .i64 x69.Id,.slice a78 n79 c80,.slice a82 n83 c84]) tf61 rfl hS60 ha86 rfl) ?_
     refine wl_alloc wn rfl tf61 hS60 ?_
     intro g87 w88 hS89
     have hS90:SH _ _ _ _ _ [obj g87 [.int .i64 0,.slice none 0 0,.slice none 0 0] 61,_,_]:=hS89
     refine wl_store (cs':=[.int .i64 x69.Id,.slice a78 n79 c80,.slice a82 n83 c84]) (v:=.agg #[.int .i64 x69.Id,.slice a78 n79 c80,.slice a82 n83 c84]) wn tf61 rfl rfl rfl (by simp [Value.cells,Value.oneCell']) hS90 rfl rfl ?_
     intro w91 hS92
     refine nr ?_
     refine wl_val wn rfl (rv_fieldAddr ff61_0 rfl) ?_
     refine wl_val wn rfl (rv_loadm1 tf3 rfl (.head _) hS92 rfl) ?_
     refine vm rfl rfl ?_
     obtain⟨x93,hx94,h95⟩:=ob h71
     refine wl_val wn rfl (rv_rem rfl rfl hx94) ?_
     refine vm rfl rfl ?_
     refine wl_val wn rfl (rv_eql rfl rfl) ?_
     refine nq ?_
     refine wc_cond rfl (fun hb96=>?_) (fun hb96=>?_)
     ·have h97:=cond_t hb96 h95
      refine wc_region ?_
      refine vm rfl rfl ?_
      refine wl_val wn rfl (rv_loadmS (ds:=[.int .i64 x69.Id,.slice a78 n79 c80,.slice a82 n83 c84]) tf61 rfl (.head _) hS92 rfl rfl) ?_
      obtain⟨r98,hx99,h100⟩:=ob h97
      refine wl_call wn rfl (rt_call (vs:=[.agg #[.int .i64 x69.Id,.slice a78 n79 c80,.slice a82 n83 c84]]) co36 rfl) ((ok_impl_cloneDoc F) hS92.enter0 hr77 hs81 hs85 hx99) ?_
      rintro e113 w102 ⟨a105,n106,c107,a109,n110,c111,K101,rfl,hS103,hr104,hs108,hs112⟩
      refine⟨_,rfl,?_⟩
      have hS114:SH _ _ _ _ _ [_,_,_,_,_]:=SH.call0 hS92 hS103
      obtain⟨fx0,hSx0,hox0⟩:=SH.ownDoc hS114 hr104 hs108 hs112
      refine wl_buildSlice (t:=oDoc.pair) (n:=1) (pv:=[(0,.agg #[.int .i64 r98.Id,.slice a105 n106 c107,.slice a109 n110 c111])]) (cs:=[.int .i64 r98.Id,.slice a105 n106 c107,.slice a109 n110 c111]) (xs:=[(r98,fx0)]) wn rfl Try.underlying33 tf61 rfl rfl rfl (by kernel_rfl) rfl rfl (lit_cons (u:=.agg #[.int .i64 r98.Id,.slice a105 n106 c107,.slice a109 n110 c111]) (z:=(r98,fx0)) hox0 lit_nil) hSx0 ?_
      intro a115 w116 K117 hl118 hs119 hS120
      have hS121:SH _ _ _ _ _ [_,_,_,_,_]:=SH.front (p:=[_,_,_]) hS120
      obtain⟨x122,hx123,h124⟩:=ob h100
      refine wl_appendO (o:=oDoc) wn rfl Try.underlying33 tf61 rfl rfl rfl rfl rfl (OwnS.mono hs64 (hS103.le.trans hl118)) (OwnS.one hs119) hx123 hS121 ?_
      intro a125 n126 c127 w128 K129 hl130 hs131 hS132
      refine va rfl rfl ?_
      refine nb ?_
      refine qg ?_
      refine wl_val wn rfl (rv_add_to rfl rfl (w64_succ hi66 (SliceAt.max (SliceAt.mono (hl11.trans hl18) hs4)))) ?_
      refine vm rfl rfl ?_
      refine wl_nil ?_
      obtain rfl:=oi h124
      have hS133:=SH.bagEnd (SH.sublist (L':=[_,_,_]) hS132 (.cons_cons _ (.cons _ (.cons_cons _ (.cons _ (.cons_cons _ .slnil))))))
      exact qe_mid' ⟨a125,n126,c127,K129,(B61++fx0),rfl,hS133,(((hl58.trans hS103.le).trans hl118).trans hl130),hs131⟩ ⟨rfl,rfl,rfl,rfl,rfl,rfl,trivial⟩
     ·have h97:=cond_f hb96 h95
      refine wc_skip ?_
      refine qe_block ?_
      refine qg ?_
      refine wl_val wn rfl (rv_add_to rfl rfl (w64_succ hi66 (SliceAt.max (SliceAt.mono (hl11.trans hl18) hs4)))) ?_
      refine vm rfl rfl ?_
      refine wl_nil ?_
      obtain rfl:=oi h97
      have hS134:SH _ _ _ _ _ [_,_]:=SH.sublist hS92 (.cons _ (.cons_cons _ (.cons_cons _ .slnil)))
      exact qe_mid' ⟨a61,n62,c63,K57,B61,rfl,hS134,hl58,hs64⟩ ⟨rfl,rfl,rfl,rfl,rfl,rfl,trivial⟩
    ·rintro s52 _ w59 hr135 ⟨a61,n62,c63,K57,B61,rfl,hS60,hl58,hs64⟩
     subst hr135
     refine sr ?_
     refine wl_val wn rfl (rv_lss rfl rfl) ?_
     refine ns ?_
     refine wc_cond_f rfl (decide_eq_false (by omega)) ?_
     refine wc_exit ?_
     refine qe_then_exit ?_
     refine qe_then_exit ?_
     refine qe_block_eq ?_
     obtain rfl:=oi h55
     exact qe_mid' ⟨a61,n62,c63,K57,B61,rfl,hS60,hl58,hs64⟩ ⟨rfl,trivial⟩
   ·rintro _ w46 ⟨a48,n49,c50,K44,B48,rfl,hS47,hl45,hs51⟩
    refine qr ?_
    refine vm rfl rfl ?_
    refine va rfl rfl ?_
    refine nq ?_
    refine wc_ret ?_
    obtain rfl:=oi h43
    obtain⟨ff0,hSf0,hRf0⟩:=SH.ownS hS47 hs51
    exact qe_ret (vs:=[_]) Try.results17 ⟨rfl,trivial⟩ ⟨a48,n49,c50,K44,ff0,rfl,hSf0,hRf0⟩

theorem ok_laws_eqField {q0:GField}{q1:GField}{r:Bool}(hS:SH w K [] w K [])(q:q0.Name.length≤maxLen)(s:q0.Text.length≤maxLen)(x:q1.Name.length≤maxLen)(y:q1.Text.length≤maxLen)(hm:M.laws_eqField F q0 q1=some r):
  Calls prog 67 #[.agg #[sv q0.Name,sv q0.Text],.agg #[sv q1.Name,sv q1.Text]] w (R_b w K r):=by
 rw [M.laws_eqField] at hm
 refine ci func67 u ntmps67 (sr (bx u hS fun f A i=>?_))
 have k:SH _ _ _ _ _ [obj f [sv q0.Name,sv q0.Text] 82]:=i
 refine bx u k fun l B m=>?_
 have a:SH _ _ _ _ _ [obj l [sv q1.Name,sv q1.Text] 82,_]:=m
 refine lv (r_f u) (nsr (fl ff82_0 u tf9 m1 a u (fl ff82_0 u tf9 m0 a u (lv (rv_sneq u u) (nq (wc_cond u (fun b=>?_) (fun b=>?_)))))))
 ·have c:=cond_t b hm
  refine sr (lv (r_f u) (nq (rr ?_)))
  cases oi c
  exact ey results67 ⟨K,u,a.s⟩
 have c:=cond_f b hm
 refine wc_skip (qs (sr (fl ff82_1 u tf9 m1 a u (fl ff82_1 u tf9 m0 a u (lv (rv_sneq u u) (nq (wcc c u (fun o d=>?_) (fun o d=>?_))))))))
 ·refine sr (lv (r_f u) (nq (rr ?_)))
  cases oi d
  exact ey results67 ⟨K,u,a.s⟩
 refine wc_skip (qr (lv (r_t u) (nq (wc_ret ?_))))
 cases oi d
 exact ey results67 ⟨K,u,a.s⟩

theorem ok_laws_eqFieldS {q0:List GField}{q1:List GField}{r:Bool}(hS:SH w K [] w K [])(k:SliceAt tGField K A a b q0)(x:SliceAt tGField K B c d q1)(hm:M.laws_eqFieldS F q0 q1=some r):
  Calls prog 54 #[V3 A a b,V3 B c d] w (R_b w K r):=by
 rw [M.laws_eqFieldS] at hm
 refine ci func54 u ntmps54 (sr (lv (r_f u) (nsr (mv u (lv (rv_len underlying58 u k) (mv u (lv (rv_len underlying58 u x) (lv (rv_neq u u) (nq ?_)))))))))
 refine wc_cond u (fun l=>?_) (fun l=>?_)
 ·have m:=cond_t l hm
  refine sr (lv (r_f u) (nq (rr ?_)))
  cases oi m
  exact ey results54 ⟨K,u,hS⟩
 have m:=cond_f l hm
 refine wc_skip (qs (sr (lv (r_0 u) (nq ?_))))
 obtain⟨O,R,i⟩:=ob m
 refine wc_cutg (IE O w K [] K [] []) ?_ ?_
 ·refine wc_block ?_
  obtain⟨az,S,y⟩:=ob R
  refine qw (fun (o:Int)=>IW w K [] K [(0,V3 A a b),(1,V3 B c d),(5,V6 o)] [] (rng64 o)) S ⟨K,u,hS,kr,d_0⟩ ?_
  rintro o _ aA aB T C ⟨U,rfl,D,f,aC⟩
  refine wc_seq (sr (mv u (mv u (lv (rv_len underlying58 u (k.mono f)) (lv (rv_lss u u) (nq (wcc T u (fun V q=>?_) (fun V q=>?_))))))))
  ·refine wc_skip (qs (wc_block (wc_seq (wc_quiet mixed (by kernel_rfl) D (km u (km u ?_))))))
   obtain⟨G,W,X⟩:=ob q
   refine ki underlying58 tf82 (k.mono f) W fun Y aa aD ab ac=>?_
   obtain⟨rfl,ad,ae⟩:=ab
   have af:AtK _ Y aa [sv G.Name,sv G.Text]:=ac
   refine kh (rq_loadS tf82 u af u) (km u (km u ?_))
   obtain⟨H,ag,ah⟩:=ob X
   refine ki underlying58 tf82 (x.mono f) ag fun ai aj aE ak al=>?_
   obtain⟨rfl,am,an⟩:=ak
   have ao:AtK _ ai aj [sv H.Name,sv H.Text]:=al
   refine kh (rq_loadS tf82 u ao u) ?_
   obtain⟨aF,ap,aq⟩:=ob ah
   refine kc co67 (fun _ _ ar aG=>(ok_laws_eqField F) ar.enter0 ad ae am an ap) (kv (rv_not u) (wq_nil ?_))
   rintro aH ⟨I,J,au⟩
   refine qe_seq (wcc aq u (fun aw s=>?_) (fun aw s=>?_))
   ·refine sr (lv (r_f u) (nq (wc_ret (qe_block_ret (qe_then_ret (qe_then_ret ?_))))))
    cases oi s
    cases C _ u
    refine qe_block_ret (qe_then_ret ?_)
    cases oi y
    refine qe_then_ret ?_
    cases oi i
    exact ey results54 ⟨I,u,J⟩
   refine wc_skip (qe_block (qe_seq (wc_region (mv u (lv (rv_add u u) (av u (wl_nil ?_)))))))
   cases oi s
   exact qd ⟨_,u,I,u,J,(f.trans au),(w64_rng _)⟩
  refine wc_exit (qe_then_exit (qe_then_exit ?_))
  cases oi q
  cases C _ u
  refine qe_block_eq ?_
  cases oi y
  exact qe_mid' ⟨_,U,u,u,D,f⟩ trivial
 rintro _ aI ⟨aJ,ax,rfl,rfl,ay,aK⟩
 have i:=elim_l i
 refine qr (lv (r_t u) (nq (wc_ret ?_)))
 cases oi i
 exact ey results54 ⟨ax,u,ay⟩

theorem ok_laws_eqAttr {q0:GAttr}{q1:GAttr}{r:Bool}(hS:SH w K [] w K [])(q:q0.Name.length≤maxLen)(s:rng64 q0.Num)(x:q1.Name.length≤maxLen)(y:rng64 q1.Num)(hm:M.laws_eqAttr F q0 q1=some r):
  Calls prog 68 #[.agg #[sv q0.Name,V6 q0.Num],.agg #[sv q1.Name,V6 q1.Num]] w (R_b w K r):=by
 rw [M.laws_eqAttr] at hm
 refine ci func68 u ntmps68 (sr (bx u hS fun f A i=>?_))
 have k:SH _ _ _ _ _ [obj f [sv q0.Name,V6 q0.Num] 84]:=i
 refine bx u k fun l B m=>?_
 have a:SH _ _ _ _ _ [obj l [sv q1.Name,V6 q1.Num] 84,_]:=m
 refine lv (r_f u) (nsr (fl ff84_0 u tf9 m1 a u (fl ff84_0 u tf9 m0 a u (lv (rv_sneq u u) (nq (wc_cond u (fun b=>?_) (fun b=>?_)))))))
 ·have c:=cond_t b hm
  refine sr (lv (r_f u) (nq (rr ?_)))
  cases oi c
  exact ey results68 ⟨K,u,a.s⟩
 have c:=cond_f b hm
 refine wc_skip (qs (sr (fl ff84_1 u tf3 m1 a u (fl ff84_1 u tf3 m0 a u (lv (rv_neq u u) (nq (wcc c u (fun o d=>?_) (fun o d=>?_))))))))
 ·refine sr (lv (r_f u) (nq (rr ?_)))
  cases oi d
  exact ey results68 ⟨K,u,a.s⟩
 refine wc_skip (qr (lv (r_t u) (nq (wc_ret ?_))))
 cases oi d
 exact ey results68 ⟨K,u,a.s⟩
end Go.Proofs.Ytpjefkdclnmlfaa
