/-
 Walks of the functions. Printed by gen.py.
-/
import Derived.Test.YtpjefkdclnmlfaaGreatWalkA1
set_option linter.unusedVariables false
set_option linter.unusedSectionVars false
set_option maxRecDepth 100000
namespace Go.Proofs.YtpjefkdclnmlfaaGreat
set_option maxHeartbeats 4000000
open Go Go.Fk Go.RowKit Tryz
variable (F:Nat){w:World}{K:KMap}{Z:List Nat}{g1 g2 g3:Nat}{A B C D G H I J O R S T:Option Addr}{a b c d f i k l m n o p q s v x y aa ab ac ad ae af ag:Nat}
variable [dr:Dr]

theorem bag_laws_toEntry (F:Nat){w:World}{K:KMap}{a3:Option Addr}{n4 c5:Nat}{p0_a:GEntry}{r:GEntry}(hS:SH w K [] w K [])(hl1:p0_a.Field.length≤maxLen)(hl2:p0_a.Term.length≤maxLen)(hs6:SliceAt tGPost K a3 n4 c5 p0_a.Posts)(hm:M.laws_toEntry F p0_a=some r):
  Calls Tryz.prog 163 #[.agg #[sv p0_a.Field,sv p0_a.Term,.slice a3 n4 c5]] w fun e w'=>∃(a_3:Option Addr) (n_4 c_5:Nat) (K':KMap) (B':List Nat),e= .returned (.agg #[sv r.Field,sv r.Term,.slice a_3 n_4 c_5])∧SH w K [] w' K' [bag B']∧r.Field.length≤maxLen∧r.Term.length≤maxLen∧SliceAt tGPost (K'.only B') a_3 n_4 c_5 r.Posts:=by
 rw [M.laws_toEntry] at hm
 refine calls_in Tryz.func163 u Tryz.ntmps163 u ?_
 refine sr ?_
 refine wl_box wn u u hS ?_
 intro g7 w9 hS10
 have hS11:SH _ _ _ _ _ [obj g7 [sv p0_a.Field,sv p0_a.Term,.slice a3 n4 c5] 201]:=hS10
 refine wl_alloc wn u tf116 hS11 ?_
 intro g12 w13 hS14
 have hS15:SH _ _ _ _ _ [obj g12 [sv [],sv [],.slice none 0 0] 116,_]:=hS14
 refine nr ?_
 refine wl_alloc wn u tf116 hS15 ?_
 intro g16 w17 hS18
 have hS19:SH _ _ _ _ _ [obj g16 [sv [],sv [],.slice none 0 0] 116,_,_]:=hS18
 refine nr ?_
 refine wl_val wn u (rv_fieldAddr ff201_0 u) ?_
 refine wl_val wn u (rv_loadm1 tf9 u (.tail _ (.tail _ (.head _))) hS19 u) ?_
 refine wl_val wn u (rv_fieldAddr ff116_0 u) ?_
 refine wl_store (cs':=[sv p0_a.Field,sv [],.slice none 0 0]) (v:=sv p0_a.Field) wn tf9 u u u (by simp [Value.cells,Value.oneCell',sv]) hS19 u u ?_
 intro w20 hS21
 refine nr ?_
 refine wl_val wn u (rv_fieldAddr ff201_1 u) ?_
 refine wl_val wn u (rv_loadm1 tf9 u (.tail _ (.tail _ (.head _))) hS21 u) ?_
 refine wl_val wn u (rv_fieldAddr ff116_1 u) ?_
 refine wl_store (cs':=[sv p0_a.Field,sv p0_a.Term,.slice none 0 0]) (v:=sv p0_a.Term) wn tf9 u u u (by simp [Value.cells,Value.oneCell',sv]) hS21 u u ?_
 intro w22 hS23
 refine nr ?_
 refine wl_val wn u (rv_fieldAddr ff201_2 u) ?_
 refine wl_val wn u (rv_loadm1 tf199 u (.tail _ (.tail _ (.head _))) hS23 u) ?_
 obtain⟨r24,hx25,h26⟩:=ob hm
 refine wl_call wn u (rt_call (vs:=[.slice a3 n4 c5]) co216 u) ((bag_laws_toPostS F) hS23.enter0 hs6 hx25) ?_
 rintro e34 w28 ⟨a30,n31,c32,K27,B27,rfl,hS29,hs33⟩
 refine⟨_,u,?_⟩
 have hS35:SH _ _ _ _ _ [_,_,_,_]:=SH.call0 hS23 hS29
 refine wl_val wn u (rv_fieldAddr ff116_2 u) ?_
 have hS36:SH _ _ _ _ _ [_,_,_,_]:=SH.front (p:=[_]) hS35
 refine wl_store (cs':=[sv p0_a.Field,sv p0_a.Term,.slice a30 n31 c32]) (v:=.slice a30 n31 c32) wn tf61 u u u (by simp [Value.cells,Value.oneCell']) hS36 u u ?_
 intro w37 hS38
 refine nr ?_
 refine wl_val wn u (rv_loadmS (ds:=[sv p0_a.Field,sv p0_a.Term,.slice a30 n31 c32]) tf116 u (.head _) hS38 u u) ?_
 have hS39:SH _ _ _ _ _ [_,_,_,_]:=SH.front (p:=[_,_]) hS38
 refine wl_store (cs':=[sv p0_a.Field,sv p0_a.Term,.slice a30 n31 c32]) (v:=.agg #[sv p0_a.Field,sv p0_a.Term,.slice a30 n31 c32]) wn tf116 u u u (by simp [Value.cells,Value.oneCell',sv]) hS39 u u ?_
 intro w40 hS41
 refine nq ?_
 refine wc_ret ?_
 obtain rfl:=oi h26
 have hS42:SH _ _ _ _ _ [_]:=SH.sublist hS41 (.cons _ (.cons _ (.cons_cons _ (.cons _ .slnil))))
 exact qe_ret (vs:=[_]) Tryz.results163 ⟨⟨_,_,u,run_loadVar_at tf116 (cs:=[sv p0_a.Field,sv p0_a.Term,.slice a30 n31 c32]) (fun j c e=>by rw [Nat.zero_add,hS41.mem_obj (.head _)];exact e) (.inl ⟨u,u,u⟩)⟩,trivial⟩ ⟨a30,n31,c32,K27,B27,u,hS42,hl1,hl2,(SliceAt.mono (only_mono (KLe.refl _) fun _ h=>h) hs33)⟩

theorem bag_laws_toEntryS (F:Nat){w:World}{K:KMap}{a1:Option Addr}{n2 c3:Nat}{p0_a:List GEntry}{r:(List GEntry)}(hS:SH w K [] w K [])(hs4:SliceAt tGEntry K a1 n2 c3 p0_a)(hm:M.laws_toEntryS F p0_a=some r):
  Calls Tryz.prog 93 #[.slice a1 n2 c3] w fun e w'=>∃(a_1:Option Addr) (n_2 c_3:Nat) (K':KMap) (B':List Nat),e= .returned (.slice a_1 n_2 c_3)∧SH w K [] w' K' [bag B']∧SliceAt tGEntry (K'.only B') a_1 n_2 c_3 r:=by
 rw [M.laws_toEntryS] at hm
 refine calls_in Tryz.func93 u Tryz.ntmps93 u ?_
 refine sr ?_
 refine wl_val wn u (rv_assign (v:=.slice none 0 0) u) ?_
 refine nr ?_
 refine vm u u ?_
 refine wl_val wn u (rv_len (t:=tGEntry) Tryz.underlying57 u hs4) ?_
 obtain⟨x5,hx6,h7⟩:=ob hm
 refine wl_make (t:=Ty.fix tGEntry (K.only [])) wn u Tryz.underlying44 tf116 u u u hx6 ⟨none,0,0,u,(by decide :([]:Str).length≤maxLen),(by decide :([]:Str).length≤maxLen),(SliceAt.nil _ _)⟩ hS ?_
 intro g8 cs9 w10 hmx13 hrow11 hS12
 obtain⟨m14,hm15⟩: ∃m,m=x5.length:=⟨_,u⟩
 rw [←hm15] at hmx13
 rw [←hm15]
 refine va u u ?_
 refine nsr ?_
 refine wl_val wn u (rv_assign (v:=.int .i64 0) u) ?_
 refine nq ?_
 obtain⟨o16,h17,h18⟩:=ob h7
 refine wc_cutg (fun E' w'=>∃(cs23:List Value) (K19:KMap) (B19:List Nat),E'=[(3,.slice (some ⟨g8,0,none⟩) m14 m14)]∧SH w K [] w' K19 [obj g8 cs23 116,bag B19]∧KLe K K19∧RowAt true tGEntry (K19.only B19) cs23 o16∧m14=o16.length) ?_ ?_
 ·refine wc_block ?_
  obtain⟨r27,h28,h29⟩:=ob h17
  refine wc_while' (fun (s26:Int×(List GEntry)) E' w'=>∃(cs36:List Value) (K30:KMap) (B30:List Nat),E'=[(0,.slice a1 n2 c3),(3,.slice (some ⟨g8,0,none⟩) m14 m14),(4,.int .i64 s26.1)]∧SH w K [] w' K30 [obj g8 cs36 116,bag B30]∧KLe K K30∧rng64 s26.1∧RowAt true tGEntry (K30.only B30) cs36 s26.2∧m14=s26.2.length) h28 ⟨cs9,K,[],u,(SH.perm (SH.bag0 hS12) (List.Perm.swap _ _ _)),(KLe.refl _),d_0,hrow11,hm15⟩ ⟨u,u,u,trivial⟩ ?_
  rintro s26 _ w33 r39 h40 hx41 ⟨cs36,K30,B30,rfl,hS34,hl31,hr35,hrow37,hm38⟩
  refine wc_seq ?_
  refine sr ?_
  refine vm u u ?_
  refine vm u u ?_
  refine wl_val wn u (rv_len (t:=tGEntry) Tryz.underlying57 u (SliceAt.mono hl31 hs4)) ?_
  refine wl_val wn u (rv_lss u u) ?_
  refine nq ?_
  refine wc_cond u (fun hb42=>?_) (fun hb42=>?_)
  ·have h43:=cond_t hb42 h40
   refine wc_skip ?_
   refine qs ?_
   refine wc_block ?_
   refine wc_region ?_
   refine vm u u ?_
   refine vm u u ?_
   refine vm u u ?_
   refine vm u u ?_
   obtain⟨x44,hx45,h46⟩:=ob h43
   refine wl_indexAddr (t:=tGEntry) wn u Tryz.underlying57 tf201 u u (SliceAt.mono hl31 hs4) hx45 ?_
   intro b47 o48 u49 hu50 ha51
   obtain⟨a54,n55,c56,rfl,hl52,hl53,hs57⟩:=hu50
   have ha58:AtK _ b47 o48 [sv x44.Field,sv x44.Term,.slice a54 n55 c56]:=ha51
   refine wl_val wn u (rv_loadS (cs:=[sv x44.Field,sv x44.Term,.slice a54 n55 c56]) tf201 u hS34 ha58 u) ?_
   obtain⟨r59,hx60,h61⟩:=ob h46
   refine wl_call wn u (rt_call (vs:=[.agg #[sv x44.Field,sv x44.Term,.slice a54 n55 c56]]) co163 u) ((bag_laws_toEntry F) hS34.enter0 hl52 hl53 hs57 hx60) ?_
   rintro e71 w63 ⟨a67,n68,c69,K62,B62,rfl,hS64,hl65,hl66,hs70⟩
   refine⟨_,u,?_⟩
   have hS72:SH _ _ _ _ _ [_,_]:=SH.bagJoin (SH.perm (SH.call0 hS34 hS64) (List.Perm.cons _ (List.Perm.swap _ _ _)))
   obtain⟨x73,hx74,h75⟩:=ob h61
   obtain⟨u76,hu77,hk78⟩:=RowAt.at (RowAt.mono (only_mono hS64.le fun _ h=>h) hrow37) hx74
   obtain⟨a82,n83,c84,rfl,hl80,hl81,hs85⟩:=hu77
   have hk79: ∀(j:Nat) (d:Value),[sv x73.Field,sv x73.Term,.slice a82 n83 c84][j]? =some d→cs36[s26.1.toNat*tGEntry.size+j]? =some d:=hk78
   refine wl_val wn u (rv_indexRow (t:=tGEntry) Tryz.underlying44 tf116 u u hm38 hx74) ?_
   have hS86:SH _ _ _ _ _ [_,_]:=SH.front (p:=[_]) hS72
   refine wl_storeRow (t:=Ty.fix tGEntry (K62.only (B62++B30))) (v:=.agg #[sv r59.Field,sv r59.Term,.slice a67 n68 c69]) (e:=r59) wn tf116 u u ⟨a67,n68,c69,u,hl65,hl66,(SliceAt.mono (only_mono (KLe.refl _) fun _ h=>List.mem_append_left _ h) hs70)⟩ hS86 (show RowAt true tGEntry (K62.only (B62++B30)) _ _ from RowAt.mono (only_mono hS64.le fun _ h=>List.mem_append_right _ h) hrow37) hx74 ?_
   intro cs87 w88 hrow89 hS90
   have hm91:=hm38.trans (List.length_set (i:=s26.1.toNat) (a:=r59)).symm
   refine nb ?_
   refine qe_seq ?_
   refine wc_region ?_
   refine vm u u ?_
   refine wl_val wn u (rv_add u u) ?_
   refine va u u ?_
   refine wl_nil ?_
   obtain rfl:=oi h75
   have hS92:=hS90
   exact qe_mid' ⟨_,u,cs87,K62,(B62++B30),u,hS92,(hl31.trans hS64.le),(w64_rng _),hrow89,hm91⟩ ⟨u,u,u,trivial⟩
  ·have h43:=cond_f hb42 h40
   refine wc_exit ?_
   refine qe_then_exit ?_
   refine qe_then_exit ?_
   obtain rfl:=oi h43
   have e93:=hx41 _ u
   subst e93
   refine qe_block_eq ?_
   obtain rfl:=oi h29
   exact qe_mid' ⟨cs36,K30,B30,u,hS34,hl31,hrow37,hm38⟩ ⟨u,trivial⟩
 ·rintro _ w21 ⟨cs23,K19,B19,rfl,hS22,hl20,hrow24,hm25⟩
  refine qr ?_
  refine vm u u ?_
  refine va u u ?_
  refine nq ?_
  refine wc_ret ?_
  obtain⟨K94,hl95,hs96,hS97⟩:=SH.freeze (t:=Ty.fix tGEntry (K19.only B19)) hS22 hrow24 (row_max hm25 hmx13)
  rw [←hm25] at hs96 hS97
  obtain rfl:=oi h18
  obtain⟨Bz,hSz,hBz⟩:=SH.bagTail hS97
  exact qe_ret (vs:=[_]) Tryz.results93 ⟨u,trivial⟩ ⟨(some ⟨g8,0,none⟩),m14,m14,K94,(Bz++B19),u,SH.bagJoin hSz,SliceAt.unfix hs96 (only_mono hl95 fun _ h=>List.mem_append_right _ h) (fun hc b o e=>List.mem_append_left _ (hBz hc b o e))⟩

theorem bag_laws_toSeg (F:Nat){w:World}{K:KMap}{a1:Option Addr}{n2 c3:Nat}{a5:Option Addr}{n6 c7:Nat}{p0_a:GSeg}{r:GSeg}(hS:SH w K [] w K [])(hs4:SliceAt tGDoc K a1 n2 c3 p0_a.Docs)(hs8:SliceAt tGEntry K a5 n6 c7 p0_a.Entries)(hm:M.laws_toSeg F p0_a=some r):
  Calls Tryz.prog 31 #[.agg #[.slice a1 n2 c3,.slice a5 n6 c7]] w fun e w'=>∃(a_1:Option Addr) (n_2 c_3:Nat) (a_5:Option Addr) (n_6 c_7:Nat) (K':KMap) (B':List Nat),e= .returned (.agg #[.slice a_1 n_2 c_3,.slice a_5 n_6 c_7])∧SH w K [] w' K' [bag B']∧SliceAt tGDoc (K'.only B') a_1 n_2 c_3 r.Docs∧SliceAt tGEntry (K'.only B') a_5 n_6 c_7 r.Entries:=by
 rw [M.laws_toSeg] at hm
 refine calls_in Tryz.func31 u Tryz.ntmps31 u ?_
 refine sr ?_
 refine wl_box wn u u hS ?_
 intro g9 w10 hS11
 have hS12:SH _ _ _ _ _ [obj g9 [.slice a1 n2 c3,.slice a5 n6 c7] 59]:=hS11
 refine wl_alloc wn u tf46 hS12 ?_
 intro g13 w14 hS15
 have hS16:SH _ _ _ _ _ [obj g13 [.slice none 0 0,.slice none 0 0] 46,_]:=hS15
 refine nr ?_
 refine wl_alloc wn u tf46 hS16 ?_
 intro g17 w18 hS19
 have hS20:SH _ _ _ _ _ [obj g17 [.slice none 0 0,.slice none 0 0] 46,_,_]:=hS19
 refine nr ?_
 refine wl_val wn u (rv_fieldAddr ff59_0 u) ?_
 refine wl_val wn u (rv_loadm1 tf40 u (.tail _ (.tail _ (.head _))) hS20 u) ?_
 obtain⟨r21,hx22,h23⟩:=ob hm
 refine wl_call wn u (rt_call (vs:=[.slice a1 n2 c3]) co20 u) ((bag_laws_toDocS F) hS20.enter0 hs4 hx22) ?_
 rintro e31 w25 ⟨a27,n28,c29,K24,B24,rfl,hS26,hs30⟩
 refine⟨_,u,?_⟩
 have hS32:SH _ _ _ _ _ [_,_,_,_]:=SH.call0 hS20 hS26
 refine wl_val wn u (rv_fieldAddr ff46_0 u) ?_
 have hS33:SH _ _ _ _ _ [_,_,_,_]:=SH.front (p:=[_]) hS32
 refine wl_store (cs':=[.slice a27 n28 c29,.slice none 0 0]) (v:=.slice a27 n28 c29) wn tf43 u u u (by simp [Value.cells,Value.oneCell']) hS33 u u ?_
 intro w34 hS35
 refine nr ?_
 refine wl_val wn u (rv_fieldAddr ff59_1 u) ?_
 refine wl_val wn u (rv_loadm1 tf57 u (.tail _ (.tail _ (.tail _ (.head _)))) hS35 u) ?_
 obtain⟨r36,hx37,h38⟩:=ob h23
 refine wl_call wn u (rt_call (vs:=[.slice a5 n6 c7]) co93 u) ((bag_laws_toEntryS F) hS35.enter0 (SliceAt.mono hS26.le hs8) hx37) ?_
 rintro e46 w40 ⟨a42,n43,c44,K39,B39,rfl,hS41,hs45⟩
 refine⟨_,u,?_⟩
 have hS47:SH _ _ _ _ _ [_,_,_,_,_]:=SH.call0 hS35 hS41
 refine wl_val wn u (rv_fieldAddr ff46_1 u) ?_
 have hS48:SH _ _ _ _ _ [_,_,_,_,_]:=SH.front (p:=[_]) hS47
 refine wl_store (cs':=[.slice a27 n28 c29,.slice a42 n43 c44]) (v:=.slice a42 n43 c44) wn tf44 u u u (by simp [Value.cells,Value.oneCell']) hS48 u u ?_
 intro w49 hS50
 refine nr ?_
 refine wl_val wn u (rv_loadmS (ds:=[.slice a27 n28 c29,.slice a42 n43 c44]) tf46 u (.head _) hS50 u u) ?_
 have hS51:SH _ _ _ _ _ [_,_,_,_,_]:=SH.front (p:=[_,_,_]) hS50
 refine wl_store (cs':=[.slice a27 n28 c29,.slice a42 n43 c44]) (v:=.agg #[.slice a27 n28 c29,.slice a42 n43 c44]) wn tf46 u u u (by simp [Value.cells,Value.oneCell']) hS51 u u ?_
 intro w52 hS53
 refine nq ?_
 refine wc_ret ?_
 obtain rfl:=oi h38
 have hS54:SH _ _ _ _ _ [_,_,_,_,_]:=SH.front (p:=[_,_]) hS53
 have hS55:SH _ _ _ _ _ [_,_,_,_,_]:=SH.front (p:=[_,_,_]) hS54
 have hS56:SH _ _ _ _ _ [_,_]:=SH.sublist hS55 (.cons_cons _ (.cons_cons _ (.cons _ (.cons _ (.cons _ .slnil)))))
 exact qe_ret (vs:=[_]) Tryz.results31 ⟨⟨_,_,u,run_loadVar_at tf46 (cs:=[.slice a27 n28 c29,.slice a42 n43 c44]) (fun j c e=>by rw [Nat.zero_add,hS53.mem_obj (.head _)];exact e) (.inl ⟨u,u,u⟩)⟩,trivial⟩ ⟨a27,n28,c29,a42,n43,c44,K39,(B24++B39),u,SH.bagJoin hS56,(SliceAt.mono (only_mono hS41.le fun _ h=>List.mem_append_left _ h) hs30),(SliceAt.mono (only_mono (KLe.refl _) fun _ h=>List.mem_append_right _ h) hs45)⟩

theorem bag_laws_toLive (F:Nat){w:World}{K:KMap}{a1:Option Addr}{n2 c3:Nat}{a5:Option Addr}{n6 c7:Nat}{a9:Option Addr}{n10 c11:Nat}{p0_a:GLive}{r:GLive}(hS:SH w K [] w K [])(hs4:SliceAt tGDoc K a1 n2 c3 p0_a.Seg.Docs)(hs8:SliceAt tGEntry K a5 n6 c7 p0_a.Seg.Entries)(hs12:SliceAt tInt K a9 n10 c11 p0_a.Dead)(hm:M.laws_toLive F p0_a=some r):
  Calls Tryz.prog 121 #[.agg #[.slice a1 n2 c3,.slice a5 n6 c7,.slice a9 n10 c11]] w fun e w'=>∃(a_1:Option Addr) (n_2 c_3:Nat) (a_5:Option Addr) (n_6 c_7:Nat) (a_9:Option Addr) (n_10 c_11:Nat) (K':KMap) (B':List Nat),e= .returned (.agg #[.slice a_1 n_2 c_3,.slice a_5 n_6 c_7,.slice a_9 n_10 c_11])∧SH w K [] w' K' [bag B']∧SliceAt tGDoc (K'.only B') a_1 n_2 c_3 r.Seg.Docs∧SliceAt tGEntry (K'.only B') a_5 n_6 c_7 r.Seg.Entries∧SliceAt tInt (K'.only B') a_9 n_10 c_11 r.Dead:=by
 rw [M.laws_toLive] at hm
 refine calls_in Tryz.func121 u Tryz.ntmps121 u ?_
 refine sr ?_
 refine wl_box wn u u hS ?_
 intro g13 w14 hS15
 have hS16:SH _ _ _ _ _ [obj g13 [.slice a1 n2 c3,.slice a5 n6 c7,.slice a9 n10 c11] 153]:=hS15
 refine wl_alloc wn u tf73 hS16 ?_
 intro g17 w18 hS19
 have hS20:SH _ _ _ _ _ [obj g17 [.slice none 0 0,.slice none 0 0,.slice none 0 0] 73,_]:=hS19
 refine nr ?_
 refine wl_alloc wn u tf73 hS20 ?_
 intro g21 w22 hS23
 have hS24:SH _ _ _ _ _ [obj g21 [.slice none 0 0,.slice none 0 0,.slice none 0 0] 73,_,_]:=hS23
 refine nr ?_
 refine wl_val wn u (rv_fieldAddr ff153_0 u) ?_
 refine wl_val wn u (rv_loadmS (ds:=[.slice a1 n2 c3,.slice a5 n6 c7]) tf59 u (.tail _ (.tail _ (.head _))) hS24 u u) ?_
 obtain⟨r25,hx26,h27⟩:=ob hm
 refine wl_call wn u (rt_call (vs:=[.agg #[.slice a1 n2 c3,.slice a5 n6 c7]]) co31 u) ((bag_laws_toSeg F) hS24.enter0 hs4 hs8 hx26) ?_
 rintro e39 w29 ⟨a31,n32,c33,a35,n36,c37,K28,B28,rfl,hS30,hs34,hs38⟩
 refine⟨_,u,?_⟩
 have hS40:SH _ _ _ _ _ [_,_,_,_,_]:=SH.back (p:=[_]) (SH.bag0 (SH.call0 hS24 hS30))
 refine wl_val wn u (rv_fieldAddr ff73_0 u) ?_
 have hS41:SH _ _ _ _ _ [_,_,_,_,_]:=SH.front (p:=[_,_]) hS40
 refine wl_store (cs':=[.slice a31 n32 c33,.slice a35 n36 c37,.slice none 0 0]) (v:=.agg #[.slice a31 n32 c33,.slice a35 n36 c37]) wn tf46 u u u (by simp [Value.cells,Value.oneCell']) hS41 u u ?_
 intro w42 hS43
 refine nr ?_
 refine wl_val wn u (rv_fieldAddr ff153_1 u) ?_
 refine wl_val wn u (rv_loadm1 tf71 u (.tail _ (.tail _ (.tail _ (.tail _ (.head _))))) hS43 u) ?_
 obtain⟨r44,hx45,h46⟩:=ob h27
 refine wl_call wn u (rt_call (vs:=[.slice a9 n10 c11]) co184 u) ((bag_laws_toIntS F) hS43.enter0 (SliceAt.mono hS30.le hs12) hx45) ?_
 rintro e54 w48 ⟨a50,n51,c52,K47,B47,rfl,hS49,hs53⟩
 refine⟨_,u,?_⟩
 have hS55:SH _ _ _ _ _ [_,_,_,_,_,_]:=SH.call0 hS43 hS49
 refine wl_val wn u (rv_fieldAddr ff73_1 u) ?_
 have hS56:SH _ _ _ _ _ [_,_,_,_,_,_]:=SH.front (p:=[_]) hS55
 refine wl_store (cs':=[.slice a31 n32 c33,.slice a35 n36 c37,.slice a50 n51 c52]) (v:=.slice a50 n51 c52) wn tf71 u u u (by simp [Value.cells,Value.oneCell']) hS56 u u ?_
 intro w57 hS58
 refine nr ?_
 refine wl_val wn u (rv_loadmS (ds:=[.slice a31 n32 c33,.slice a35 n36 c37,.slice a50 n51 c52]) tf73 u (.head _) hS58 u u) ?_
 have hS59:SH _ _ _ _ _ [_,_,_,_,_,_]:=SH.front (p:=[_,_,_,_]) hS58
 refine wl_store (cs':=[.slice a31 n32 c33,.slice a35 n36 c37,.slice a50 n51 c52]) (v:=.agg #[.slice a31 n32 c33,.slice a35 n36 c37,.slice a50 n51 c52]) wn tf73 u u u (by simp [Value.cells,Value.oneCell']) hS59 u u ?_
 intro w60 hS61
 refine nq ?_
 refine wc_ret ?_
 obtain rfl:=oi h46
 have hS62:SH _ _ _ _ _ [_,_]:=SH.sublist hS61 (.cons _ (.cons _ (.cons_cons _ (.cons_cons _ (.cons _ (.cons _ .slnil))))))
 exact qe_ret (vs:=[_]) Tryz.results121 ⟨⟨_,_,u,run_loadVar_at tf73 (cs:=[.slice a31 n32 c33,.slice a35 n36 c37,.slice a50 n51 c52]) (fun j c e=>by rw [Nat.zero_add,hS61.mem_obj (.head _)];exact e) (.inl ⟨u,u,u⟩)⟩,trivial⟩ ⟨a31,n32,c33,a35,n36,c37,a50,n51,c52,K47,(B47++B28),u,SH.bagJoin hS62,(SliceAt.mono (only_mono hS49.le fun _ h=>List.mem_append_right _ h) hs34),(SliceAt.mono (only_mono hS49.le fun _ h=>List.mem_append_right _ h) hs38),(SliceAt.mono (only_mono (KLe.refl _) fun _ h=>List.mem_append_left _ h) hs53)⟩

theorem bag_laws_toLiveS (F:Nat){w:World}{K:KMap}{a1:Option Addr}{n2 c3:Nat}{p0_a:List GLive}{r:(List GLive)}(hS:SH w K [] w K [])(hs4:SliceAt tGLive K a1 n2 c3 p0_a)(hm:M.laws_toLiveS F p0_a=some r):
  Calls Tryz.prog 58 #[.slice a1 n2 c3] w fun e w'=>∃(a_1:Option Addr) (n_2 c_3:Nat) (K':KMap) (B':List Nat),e= .returned (.slice a_1 n_2 c_3)∧SH w K [] w' K' [bag B']∧SliceAt tGLive (K'.only B') a_1 n_2 c_3 r:=by
 rw [M.laws_toLiveS] at hm
 refine calls_in Tryz.func58 u Tryz.ntmps58 u ?_
 refine sr ?_
 refine wl_val wn u (rv_assign (v:=.slice none 0 0) u) ?_
 refine nr ?_
 refine vm u u ?_
 refine wl_val wn u (rv_len (t:=tGLive) Tryz.underlying26 u hs4) ?_
 obtain⟨x5,hx6,h7⟩:=ob hm
 refine wl_make (t:=Ty.fix tGLive (K.only [])) wn u Tryz.underlying34 tf73 u u u hx6 ⟨none,0,0,none,0,0,none,0,0,u,(SliceAt.nil _ _),(SliceAt.nil _ _),(SliceAt.nil _ _)⟩ hS ?_
 intro g8 cs9 w10 hmx13 hrow11 hS12
 obtain⟨m14,hm15⟩: ∃m,m=x5.length:=⟨_,u⟩
 rw [←hm15] at hmx13
 rw [←hm15]
 refine va u u ?_
 refine nsr ?_
 refine wl_val wn u (rv_assign (v:=.int .i64 0) u) ?_
 refine nq ?_
 obtain⟨o16,h17,h18⟩:=ob h7
 refine wc_cutg (fun E' w'=>∃(cs23:List Value) (K19:KMap) (B19:List Nat),E'=[(3,.slice (some ⟨g8,0,none⟩) m14 m14)]∧SH w K [] w' K19 [obj g8 cs23 73,bag B19]∧KLe K K19∧RowAt true tGLive (K19.only B19) cs23 o16∧m14=o16.length) ?_ ?_
 ·refine wc_block ?_
  obtain⟨r27,h28,h29⟩:=ob h17
  refine wc_while' (fun (s26:Int×(List GLive)) E' w'=>∃(cs36:List Value) (K30:KMap) (B30:List Nat),E'=[(0,.slice a1 n2 c3),(3,.slice (some ⟨g8,0,none⟩) m14 m14),(4,.int .i64 s26.1)]∧SH w K [] w' K30 [obj g8 cs36 73,bag B30]∧KLe K K30∧rng64 s26.1∧RowAt true tGLive (K30.only B30) cs36 s26.2∧m14=s26.2.length) h28 ⟨cs9,K,[],u,(SH.perm (SH.bag0 hS12) (List.Perm.swap _ _ _)),(KLe.refl _),d_0,hrow11,hm15⟩ ⟨u,u,u,trivial⟩ ?_
  rintro s26 _ w33 r39 h40 hx41 ⟨cs36,K30,B30,rfl,hS34,hl31,hr35,hrow37,hm38⟩
  refine wc_seq ?_
  refine sr ?_
  refine vm u u ?_
  refine vm u u ?_
  refine wl_val wn u (rv_len (t:=tGLive) Tryz.underlying26 u (SliceAt.mono hl31 hs4)) ?_
  refine wl_val wn u (rv_lss u u) ?_
  refine nq ?_
  refine wc_cond u (fun hb42=>?_) (fun hb42=>?_)
  ·have h43:=cond_t hb42 h40
   refine wc_skip ?_
   refine qs ?_
   refine wc_block ?_
   refine wc_region ?_
   refine vm u u ?_
   refine vm u u ?_
   refine vm u u ?_
   refine vm u u ?_
   obtain⟨x44,hx45,h46⟩:=ob h43
   refine wl_indexAddr (t:=tGLive) wn u Tryz.underlying26 tf153 u u (SliceAt.mono hl31 hs4) hx45 ?_
   intro b47 o48 u49 hu50 ha51
   obtain⟨a52,n53,c54,a56,n57,c58,a60,n61,c62,rfl,hs55,hs59,hs63⟩:=hu50
   have ha64:AtK _ b47 o48 [.slice a52 n53 c54,.slice a56 n57 c58,.slice a60 n61 c62]:=ha51
   refine wl_val wn u (rv_loadS (cs:=[.slice a52 n53 c54,.slice a56 n57 c58,.slice a60 n61 c62]) tf153 u hS34 ha64 u) ?_
   obtain⟨r65,hx66,h67⟩:=ob h46
   refine wl_call wn u (rt_call (vs:=[.agg #[.slice a52 n53 c54,.slice a56 n57 c58,.slice a60 n61 c62]]) co121 u) ((bag_laws_toLive F) hS34.enter0 hs55 hs59 hs63 hx66) ?_
   rintro e83 w69 ⟨a71,n72,c73,a75,n76,c77,a79,n80,c81,K68,B68,rfl,hS70,hs74,hs78,hs82⟩
   refine⟨_,u,?_⟩
   have hS84:SH _ _ _ _ _ [_,_]:=SH.bagJoin (SH.perm (SH.call0 hS34 hS70) (List.Perm.cons _ (List.Perm.swap _ _ _)))
   obtain⟨x85,hx86,h87⟩:=ob h67
   obtain⟨u88,hu89,hk90⟩:=RowAt.at (RowAt.mono (only_mono hS70.le fun _ h=>h) hrow37) hx86
   obtain⟨a92,n93,c94,a96,n97,c98,a100,n101,c102,rfl,hs95,hs99,hs103⟩:=hu89
   have hk91: ∀(j:Nat) (d:Value),[.slice a92 n93 c94,.slice a96 n97 c98,.slice a100 n101 c102][j]? =some d→cs36[s26.1.toNat*tGLive.size+j]? =some d:=hk90
   refine wl_val wn u (rv_indexRow (t:=tGLive) Tryz.underlying34 tf73 u u hm38 hx86) ?_
   have hS104:SH _ _ _ _ _ [_,_]:=SH.front (p:=[_]) hS84
   refine wl_storeRow (t:=Ty.fix tGLive (K68.only (B68++B30))) (v:=.agg #[.slice a71 n72 c73,.slice a75 n76 c77,.slice a79 n80 c81]) (e:=r65) wn tf73 u u ⟨a71,n72,c73,a75,n76,c77,a79,n80,c81,u,(SliceAt.mono (only_mono (KLe.refl _) fun _ h=>List.mem_append_left _ h) hs74),(SliceAt.mono (only_mono (KLe.refl _) fun _ h=>List.mem_append_left _ h) hs78),(SliceAt.mono (only_mono (KLe.refl _) fun _ h=>List.mem_append_left _ h) hs82)⟩ hS104 (show RowAt true tGLive (K68.only (B68++B30)) _ _ from RowAt.mono (only_mono hS70.le fun _ h=>List.mem_append_right _ h) hrow37) hx86 ?_
   intro cs105 w106 hrow107 hS108
   have hm109:=hm38.trans (List.length_set (i:=s26.1.toNat) (a:=r65)).symm
   refine nb ?_
   refine qe_seq ?_
   refine wc_region ?_
   refine vm u u ?_
   refine wl_val wn u (rv_add u u) ?_
   refine va u u ?_
   refine wl_nil ?_
   obtain rfl:=oi h87
   have hS110:=hS108
   exact qe_mid' ⟨_,u,cs105,K68,(B68++B30),u,hS110,(hl31.trans hS70.le),(w64_rng _),hrow107,hm109⟩ ⟨u,u,u,trivial⟩
  ·have h43:=cond_f hb42 h40
   refine wc_exit ?_
   refine qe_then_exit ?_
   refine qe_then_exit ?_
   obtain rfl:=oi h43
   have e111:=hx41 _ u
   subst e111
   refine qe_block_eq ?_
   obtain rfl:=oi h29
   exact qe_mid' ⟨cs36,K30,B30,u,hS34,hl31,hrow37,hm38⟩ ⟨u,trivial⟩
 ·rintro _ w21 ⟨cs23,K19,B19,rfl,hS22,hl20,hrow24,hm25⟩
  refine qr ?_
  refine vm u u ?_
  refine va u u ?_
  refine nq ?_
  refine wc_ret ?_
  obtain⟨K112,hl113,hs114,hS115⟩:=SH.freeze (t:=Ty.fix tGLive (K19.only B19)) hS22 hrow24 (row_max hm25 hmx13)
  rw [←hm25] at hs114 hS115
  obtain rfl:=oi h18
  obtain⟨Bz,hSz,hBz⟩:=SH.bagTail hS115
  exact qe_ret (vs:=[_]) Tryz.results58 ⟨u,trivial⟩ ⟨(some ⟨g8,0,none⟩),m14,m14,K112,(Bz++B19),u,SH.bagJoin hSz,SliceAt.unfix hs114 (only_mono hl113 fun _ h=>List.mem_append_right _ h) (fun hc b o e=>List.mem_append_left _ (hBz hc b o e))⟩

theorem bag_laws_toIndex (F:Nat){w:World}{K:KMap}{a1:Option Addr}{n2 c3:Nat}{a5:Option Addr}{n6 c7:Nat}{a9:Option Addr}{n10 c11:Nat}{p0_a:GIndex}{r:GIndex}(hS:SH w K [] w K [])(hs4:SliceAt tStr K a1 n2 c3 p0_a.Conf.Stops)(hs8:SliceAt tGSyn K a5 n6 c7 p0_a.Conf.Syns)(hs12:SliceAt tGLive K a9 n10 c11 p0_a.Segs)(hm:M.laws_toIndex F p0_a=some r):
  Calls Tryz.prog 13 #[.agg #[.slice a1 n2 c3,.slice a5 n6 c7,.slice a9 n10 c11]] w fun e w'=>∃(a_1:Option Addr) (n_2 c_3:Nat) (a_5:Option Addr) (n_6 c_7:Nat) (a_9:Option Addr) (n_10 c_11:Nat) (K':KMap) (B':List Nat),e= .returned (.agg #[.slice a_1 n_2 c_3,.slice a_5 n_6 c_7,.slice a_9 n_10 c_11])∧SH w K [] w' K' [bag B']∧SliceAt tStr (K'.only B') a_1 n_2 c_3 r.Conf.Stops∧SliceAt tGSyn (K'.only B') a_5 n_6 c_7 r.Conf.Syns∧SliceAt tGLive (K'.only B') a_9 n_10 c_11 r.Segs:=by
 rw [M.laws_toIndex] at hm
 refine calls_in Tryz.func13 u Tryz.ntmps13 u ?_
 refine sr ?_
 refine wl_box wn u u hS ?_
 intro g13 w14 hS15
 have hS16:SH _ _ _ _ _ [obj g13 [.slice a1 n2 c3,.slice a5 n6 c7,.slice a9 n10 c11] 28]:=hS15
 refine wl_alloc wn u tf36 hS16 ?_
 intro g17 w18 hS19
 have hS20:SH _ _ _ _ _ [obj g17 [.slice none 0 0,.slice none 0 0,.slice none 0 0] 36,_]:=hS19
 refine nr ?_
 refine wl_alloc wn u tf36 hS20 ?_
 intro g21 w22 hS23
 have hS24:SH _ _ _ _ _ [obj g21 [.slice none 0 0,.slice none 0 0,.slice none 0 0] 36,_,_]:=hS23
 refine nr ?_
 refine wl_val wn u (rv_fieldAddr ff28_0 u) ?_
 refine wl_val wn u (rv_loadmS (ds:=[.slice a1 n2 c3,.slice a5 n6 c7]) tf25 u (.tail _ (.tail _ (.head _))) hS24 u u) ?_
 obtain⟨r25,hx26,h27⟩:=ob hm
 refine wl_call wn u (rt_call (vs:=[.agg #[.slice a1 n2 c3,.slice a5 n6 c7]]) co19 u) ((bag_laws_toConf F) hS24.enter0 hs4 hs8 hx26) ?_
 rintro e39 w29 ⟨a31,n32,c33,a35,n36,c37,K28,B28,rfl,hS30,hs34,hs38⟩
 refine⟨_,u,?_⟩
 have hS40:SH _ _ _ _ _ [_,_,_,_,_]:=SH.back (p:=[_]) (SH.bag0 (SH.call0 hS24 hS30))
 refine wl_val wn u (rv_fieldAddr ff36_0 u) ?_
 have hS41:SH _ _ _ _ _ [_,_,_,_,_]:=SH.front (p:=[_,_]) hS40
 refine wl_store (cs':=[.slice a31 n32 c33,.slice a35 n36 c37,.slice none 0 0]) (v:=.agg #[.slice a31 n32 c33,.slice a35 n36 c37]) wn tf33 u u u (by simp [Value.cells,Value.oneCell']) hS41 u u ?_
 intro w42 hS43
 refine nr ?_
 refine wl_val wn u (rv_fieldAddr ff28_1 u) ?_
 refine wl_val wn u (rv_loadm1 tf26 u (.tail _ (.tail _ (.tail _ (.tail _ (.head _))))) hS43 u) ?_
 obtain⟨r44,hx45,h46⟩:=ob h27
 refine wl_call wn u (rt_call (vs:=[.slice a9 n10 c11]) co58 u) ((bag_laws_toLiveS F) hS43.enter0 (SliceAt.mono hS30.le hs12) hx45) ?_
 rintro e54 w48 ⟨a50,n51,c52,K47,B47,rfl,hS49,hs53⟩
 refine⟨_,u,?_⟩
 have hS55:SH _ _ _ _ _ [_,_,_,_,_,_]:=SH.call0 hS43 hS49
 refine wl_val wn u (rv_fieldAddr ff36_1 u) ?_
 have hS56:SH _ _ _ _ _ [_,_,_,_,_,_]:=SH.front (p:=[_]) hS55
 refine wl_store (cs':=[.slice a31 n32 c33,.slice a35 n36 c37,.slice a50 n51 c52]) (v:=.slice a50 n51 c52) wn tf34 u u u (by simp [Value.cells,Value.oneCell']) hS56 u u ?_
 intro w57 hS58
 refine nr ?_
 refine wl_val wn u (rv_loadmS (ds:=[.slice a31 n32 c33,.slice a35 n36 c37,.slice a50 n51 c52]) tf36 u (.head _) hS58 u u) ?_
 have hS59:SH _ _ _ _ _ [_,_,_,_,_,_]:=SH.front (p:=[_,_,_,_]) hS58
 refine wl_store (cs':=[.slice a31 n32 c33,.slice a35 n36 c37,.slice a50 n51 c52]) (v:=.agg #[.slice a31 n32 c33,.slice a35 n36 c37,.slice a50 n51 c52]) wn tf36 u u u (by simp [Value.cells,Value.oneCell']) hS59 u u ?_
 intro w60 hS61
 refine nq ?_
 refine wc_ret ?_
 obtain rfl:=oi h46
 have hS62:SH _ _ _ _ _ [_,_]:=SH.sublist hS61 (.cons _ (.cons _ (.cons_cons _ (.cons_cons _ (.cons _ (.cons _ .slnil))))))
 exact qe_ret (vs:=[_]) Tryz.results13 ⟨⟨_,_,u,run_loadVar_at tf36 (cs:=[.slice a31 n32 c33,.slice a35 n36 c37,.slice a50 n51 c52]) (fun j c e=>by rw [Nat.zero_add,hS61.mem_obj (.head _)];exact e) (.inl ⟨u,u,u⟩)⟩,trivial⟩ ⟨a31,n32,c33,a35,n36,c37,a50,n51,c52,K47,(B47++B28),u,SH.bagJoin hS62,(SliceAt.mono (only_mono hS49.le fun _ h=>List.mem_append_right _ h) hs34),(SliceAt.mono (only_mono hS49.le fun _ h=>List.mem_append_right _ h) hs38),(SliceAt.mono (only_mono (KLe.refl _) fun _ h=>List.mem_append_left _ h) hs53)⟩

theorem ok_laws_eqStringS {q0:List Str}{q1:List Str}{r:Bool}(hS:SH w K [] w K [])(k:SliceAt tStr K A a b q0)(x:SliceAt tStr K B c d q1)(hm:M.laws_eqStringS F q0 q1=some r):
  Calls prog 80 #[V3 A a b,V3 B c d] w (R_b w K r):=by
 rw [M.laws_eqStringS] at hm
 refine ci func80 u ntmps80 (sr (lv (r_f u) (nsr (mv u (lv (rv_len underlying22 u k) (mv u (lv (rv_len underlying22 u x) (lv (rv_neq u u) (nq ?_)))))))))
 refine wc_cond u (fun l=>?_) (fun l=>?_)
 ·have m:=cond_t l hm
  refine sr (lv (r_f u) (nq (rr ?_)))
  cases oi m
  exact ey results80 ⟨K,u,hS⟩
 have m:=cond_f l hm
 refine wc_skip (qs (sr (lv (r_0 u) (nq ?_))))
 obtain⟨I,J,i⟩:=ob m
 refine wc_cutg (IE I w K [] K [] []) ?_ ?_
 ·refine wc_block ?_
  obtain⟨ap,O,y⟩:=ob J
  refine qw (fun (o:Int)=>IW w K [] K [(0,V3 A a b),(1,V3 B c d),(5,V6 o)] [] (rng64 o)) O ⟨K,u,hS,kr,d_0⟩ ?_
  rintro o _ aq ar R C ⟨S,rfl,D,f,au⟩
  refine wc_seq (sr (mv u (mv u (lv (rv_len underlying22 u (k.mono f)) (lv (rv_lss u u) (nq (wcc R u (fun T q=>?_) (fun T q=>?_))))))))
  ·refine wc_skip (qs (wc_block (wc_seq (wc_quiet mixed (by kernel_rfl) D (km u (km u ?_))))))
   obtain⟨U,V,W⟩:=ob q
   refine ki underlying22 tf9 (k.mono f) V fun X Y aw aa ab=>?_
   obtain⟨rfl,ax⟩:=aa
   have ac:AtK _ X Y [sv U]:=ab
   refine kh (rq_load1 tf9 u (ac 0 _ u)) (km u (km u ?_))
   obtain⟨ad,ae,af⟩:=ob W
   refine ki underlying22 tf9 (x.mono f) ae fun ag ah ay ai aj=>?_
   obtain⟨rfl,az⟩:=ai
   have ak:AtK _ ag ah [sv ad]:=aj
   refine kh (rq_load1 tf9 u (ak 0 _ u)) (kv (rv_sneq u u) (wq_nil ?_))
   rintro aA ⟨G,H,al⟩
   refine qe_seq (wcc af u (fun am s=>?_) (fun am s=>?_))
   ·refine sr (lv (r_f u) (nq (wc_ret (qe_block_ret (qe_then_ret (qe_then_ret ?_))))))
    cases oi s
    cases C _ u
    refine qe_block_ret (qe_then_ret ?_)
    cases oi y
    refine qe_then_ret ?_
    cases oi i
    exact ey results80 ⟨G,u,H⟩
   refine wc_skip (qe_block (qe_seq (wc_region (mv u (lv (rv_add u u) (av u (wl_nil ?_)))))))
   cases oi s
   exact qd ⟨_,u,G,u,H,(f.trans al),(w64_rng _)⟩
  refine wc_exit (qe_then_exit (qe_then_exit ?_))
  cases oi q
  cases C _ u
  refine qe_block_eq ?_
  cases oi y
  exact qe_mid' ⟨_,S,u,u,D,f⟩ trivial
 rintro _ aB ⟨aC,an,rfl,rfl,ao,aD⟩
 have i:=elim_l i
 refine qr (lv (r_t u) (nq (wc_ret ?_)))
 cases oi i
 exact ey results80 ⟨an,u,ao⟩

theorem ok_laws_eqSyn {q0:GSyn}{q1:GSyn}{r:Bool}(hS:SH w K [] w K [])(o:SliceAt tStr K A a b q0.From)(R:q0.To.length≤maxLen)(q:SliceAt tStr K B c d q1.From)(S:q1.To.length≤maxLen)(hm:M.laws_eqSyn F q0 q1=some r):
  Calls prog 157 #[.agg #[V3 A a b,sv q0.To],.agg #[V3 B c d,sv q1.To]] w (R_b w K r):=by
 rw [M.laws_eqSyn] at hm
 refine ci func157 u ntmps157 (sr (bx u hS fun s T x=>?_))
 have y:SH _ _ _ _ _ [obj s [V3 A a b,sv q0.To] 159]:=x
 refine bx u y fun C U D=>?_
 have i:SH _ _ _ _ _ [obj C [V3 B c d,sv q1.To] 159,_]:=D
 refine lv (r_f u) (nsr (fl ff159_0 u tf22 m1 i u (fl ff159_0 u tf22 m0 i u ?_)))
 obtain⟨V,G,H⟩:=ob hm
 refine lk co80 (ok_laws_eqStringS F i.enter0 o q G) ?_
 rintro W X ⟨k,rfl,I⟩
 have f:=(i.c0 I).t2
 refine lv (rv_not u) (nq (wcc H u (fun J l=>?_) (fun J l=>?_)))
 ·refine sr (lv (r_f u) (nq (rr ?_)))
  cases oi l
  exact ey results157 ⟨k,u,f.s⟩
 refine wc_skip (qs (sr (fl ff159_1 u tf9 m1 f u (fl ff159_1 u tf9 m0 f u (lv (rv_sneq u u) (nq (wcc l u (fun O m=>?_) (fun O m=>?_))))))))
 ·refine sr (lv (r_f u) (nq (rr ?_)))
  cases oi m
  exact ey results157 ⟨k,u,f.s⟩
 refine wc_skip (qr (lv (r_t u) (nq (wc_ret ?_))))
 cases oi m
 exact ey results157 ⟨k,u,f.s⟩

theorem ok_laws_eqSynS {q0:List GSyn}{q1:List GSyn}{r:Bool}(hS:SH w K [] w K [])(k:SliceAt tGSyn K A a b q0)(x:SliceAt tGSyn K B c d q1)(hm:M.laws_eqSynS F q0 q1=some r):
  Calls prog 81 #[V3 A a b,V3 B c d] w (R_b w K r):=by
 rw [M.laws_eqSynS] at hm
 refine ci func81 u ntmps81 (sr (lv (r_f u) (nsr (mv u (lv (rv_len underlying31 u k) (mv u (lv (rv_len underlying31 u x) (lv (rv_neq u u) (nq ?_)))))))))
 refine wc_cond u (fun l=>?_) (fun l=>?_)
 ·have m:=cond_t l hm
  refine sr (lv (r_f u) (nq (rr ?_)))
  cases oi m
  exact ey results81 ⟨K,u,hS⟩
 have m:=cond_f l hm
 refine wc_skip (qs (sr (lv (r_0 u) (nq ?_))))
 obtain⟨J,O,i⟩:=ob m
 refine wc_cutg (IE J w K [] K [] []) ?_ ?_
 ·refine wc_block ?_
  obtain⟨aG,R,y⟩:=ob O
  refine qw (fun (o:Int)=>IW w K [] K [(0,V3 A a b),(1,V3 B c d),(5,V6 o)] [] (rng64 o)) R ⟨K,u,hS,kr,d_0⟩ ?_
  rintro o _ aH aI S C ⟨T,rfl,D,f,aJ⟩
  refine wc_seq (sr (mv u (mv u (lv (rv_len underlying31 u (k.mono f)) (lv (rv_lss u u) (nq (wcc S u (fun U q=>?_) (fun U q=>?_))))))))
  ·refine wc_skip (qs (wc_block (wc_seq (wc_quiet mixed (by kernel_rfl) D (km u (km u ?_))))))
   obtain⟨V,W,X⟩:=ob q
   refine ki underlying31 tf159 (k.mono f) W fun Y aa aK ab ac=>?_
   obtain⟨ad,ae,af,rfl,ag,ah⟩:=ab
   have ai:AtK _ Y aa [V3 ad ae af,sv V.To]:=ac
   refine kh (rq_loadS tf159 u ai u) (km u (km u ?_))
   obtain⟨aj,ak,al⟩:=ob X
   refine ki underlying31 tf159 (x.mono f) ak fun am an aL ao ap=>?_
   obtain⟨aq,ar,au,rfl,aw,ax⟩:=ao
   have ay:AtK _ am an [V3 aq ar au,sv aj.To]:=ap
   refine kh (rq_loadS tf159 u ay u) ?_
   obtain⟨aM,az,aA⟩:=ob al
   refine kc co157 (fun _ _ aB G=>(ok_laws_eqSyn F) aB.enter0 (ag.mono G) ah (aw.mono G) ax az) (kv (rv_not u) (wq_nil ?_))
   rintro aN ⟨H,I,aC⟩
   refine qe_seq (wcc aA u (fun aD s=>?_) (fun aD s=>?_))
   ·refine sr (lv (r_f u) (nq (wc_ret (qe_block_ret (qe_then_ret (qe_then_ret ?_))))))
    cases oi s
    cases C _ u
    refine qe_block_ret (qe_then_ret ?_)
    cases oi y
    refine qe_then_ret ?_
    cases oi i
    exact ey results81 ⟨H,u,I⟩
   refine wc_skip (qe_block (qe_seq (wc_region (mv u (lv (rv_add u u) (av u (wl_nil ?_)))))))
   cases oi s
   exact qd ⟨_,u,H,u,I,(f.trans aC),(w64_rng _)⟩
  refine wc_exit (qe_then_exit (qe_then_exit ?_))
  cases oi q
  cases C _ u
  refine qe_block_eq ?_
  cases oi y
  exact qe_mid' ⟨_,T,u,u,D,f⟩ trivial
 rintro _ aO ⟨aP,aE,rfl,rfl,aF,aQ⟩
 have i:=elim_l i
 refine qr (lv (r_t u) (nq (wc_ret ?_)))
 cases oi i
 exact ey results81 ⟨aE,u,aF⟩

theorem ok_laws_eqConf {q0:GConf}{q1:GConf}{r:Bool}(hS:SH w K [] w K [])(H:SliceAt tStr K A a b q0.Stops)(I:SliceAt tGSyn K B c d q0.Syns)(J:SliceAt tStr K C f i q1.Stops)(O:SliceAt tGSyn K D k l q1.Syns)(hm:M.laws_eqConf F q0 q1=some r):
  Calls prog 23 #[.agg #[V3 A a b,V3 B c d],.agg #[V3 C f i,V3 D k l]] w (R_b w K r):=by
 rw [M.laws_eqConf] at hm
 refine ci func23 u ntmps23 (sr (bx u hS fun R af S=>?_))
 have T:SH _ _ _ _ _ [obj R [V3 A a b,V3 B c d] 33]:=S
 refine bx u T fun U ag V=>?_
 have o:SH _ _ _ _ _ [obj U [V3 C f i,V3 D k l] 33,_]:=V
 refine lv (r_f u) (nsr (fl ff33_0 u tf22 m1 o u (fl ff33_0 u tf22 m0 o u ?_)))
 obtain⟨ah,W,X⟩:=ob hm
 refine lk co80 (ok_laws_eqStringS F o.enter0 H J W) ?_
 rintro ai aj ⟨Y,rfl,q⟩
 have m:=(o.c0 q).t2
 refine lv (rv_not u) (nq (wcc X u (fun aa s=>?_) (fun aa s=>?_)))
 ·refine sr (lv (r_f u) (nq (rr ?_)))
  cases oi s
  exact ey results23 ⟨Y,u,m.s⟩
 refine wc_skip (qs (sr (fl ff33_1 u tf31 m1 m u (fl ff33_1 u tf31 m0 m u ?_))))
 obtain⟨ak,ab,ac⟩:=ob s
 refine lk co81 (ok_laws_eqSynS F m.enter0 (I.mono q.le) (O.mono q.le) ab) ?_
 rintro al am ⟨y,rfl,ad⟩
 have G:=(m.c0 ad).t2
 refine lv (rv_not u) (nq (wcc ac u (fun ae x=>?_) (fun ae x=>?_)))
 ·refine sr (lv (r_f u) (nq (rr ?_)))
  cases oi x
  exact ey results23 ⟨y,u,G.s⟩
 refine wc_skip (qr (lv (r_t u) (nq (wc_ret ?_))))
 cases oi x
 exact ey results23 ⟨y,u,G.s⟩

theorem ok_laws_eqField {q0:GField}{q1:GField}{r:Bool}(hS:SH w K [] w K [])(q:q0.Name.length≤maxLen)(s:q0.Text.length≤maxLen)(x:q1.Name.length≤maxLen)(y:q1.Text.length≤maxLen)(hm:M.laws_eqField F q0 q1=some r):
  Calls prog 212 #[.agg #[sv q0.Name,sv q0.Text],.agg #[sv q1.Name,sv q1.Text]] w (R_b w K r):=by
 rw [M.laws_eqField] at hm
 refine ci func212 u ntmps212 (sr (bx u hS fun f A i=>?_))
 have k:SH _ _ _ _ _ [obj f [sv q0.Name,sv q0.Text] 108]:=i
 refine bx u k fun l B m=>?_
 have a:SH _ _ _ _ _ [obj l [sv q1.Name,sv q1.Text] 108,_]:=m
 refine lv (r_f u) (nsr (fl ff108_0 u tf9 m1 a u (fl ff108_0 u tf9 m0 a u (lv (rv_sneq u u) (nq (wc_cond u (fun b=>?_) (fun b=>?_)))))))
 ·have c:=cond_t b hm
  refine sr (lv (r_f u) (nq (rr ?_)))
  cases oi c
  exact ey results212 ⟨K,u,a.s⟩
 have c:=cond_f b hm
 refine wc_skip (qs (sr (fl ff108_1 u tf9 m1 a u (fl ff108_1 u tf9 m0 a u (lv (rv_sneq u u) (nq (wcc c u (fun o d=>?_) (fun o d=>?_))))))))
 ·refine sr (lv (r_f u) (nq (rr ?_)))
  cases oi d
  exact ey results212 ⟨K,u,a.s⟩
 refine wc_skip (qr (lv (r_t u) (nq (wc_ret ?_))))
 cases oi d
 exact ey results212 ⟨K,u,a.s⟩

theorem ok_laws_eqFieldS {q0:List GField}{q1:List GField}{r:Bool}(hS:SH w K [] w K [])(k:SliceAt tGField K A a b q0)(x:SliceAt tGField K B c d q1)(hm:M.laws_eqFieldS F q0 q1=some r):
  Calls prog 158 #[V3 A a b,V3 B c d] w (R_b w K r):=by
 rw [M.laws_eqFieldS] at hm
 refine ci func158 u ntmps158 (sr (lv (r_f u) (nsr (mv u (lv (rv_len underlying74 u k) (mv u (lv (rv_len underlying74 u x) (lv (rv_neq u u) (nq ?_)))))))))
 refine wc_cond u (fun l=>?_) (fun l=>?_)
 ·have m:=cond_t l hm
  refine sr (lv (r_f u) (nq (rr ?_)))
  cases oi m
  exact ey results158 ⟨K,u,hS⟩
 have m:=cond_f l hm
 refine wc_skip (qs (sr (lv (r_0 u) (nq ?_))))
 obtain⟨O,R,i⟩:=ob m
 refine wc_cutg (IE O w K [] K [] []) ?_ ?_
 ·refine wc_block ?_
  obtain⟨az,S,y⟩:=ob R
  refine qw (fun (o:Int)=>IW w K [] K [(0,V3 A a b),(1,V3 B c d),(5,V6 o)] [] (rng64 o)) S ⟨K,u,hS,kr,d_0⟩ ?_
  rintro o _ aA aB T C ⟨U,rfl,D,f,aC⟩
  refine wc_seq (sr (mv u (mv u (lv (rv_len underlying74 u (k.mono f)) (lv (rv_lss u u) (nq (wcc T u (fun V q=>?_) (fun V q=>?_))))))))
  ·refine wc_skip (qs (wc_block (wc_seq (wc_quiet mixed (by kernel_rfl) D (km u (km u ?_))))))
   obtain⟨G,W,X⟩:=ob q
   refine ki underlying74 tf108 (k.mono f) W fun Y aa aD ab ac=>?_
   obtain⟨rfl,ad,ae⟩:=ab
   have af:AtK _ Y aa [sv G.Name,sv G.Text]:=ac
   refine kh (rq_loadS tf108 u af u) (km u (km u ?_))
   obtain⟨H,ag,ah⟩:=ob X
   refine ki underlying74 tf108 (x.mono f) ag fun ai aj aE ak al=>?_
   obtain⟨rfl,am,an⟩:=ak
   have ao:AtK _ ai aj [sv H.Name,sv H.Text]:=al
   refine kh (rq_loadS tf108 u ao u) ?_
   obtain⟨aF,ap,aq⟩:=ob ah
   refine kc co212 (fun _ _ ar aG=>(ok_laws_eqField F) ar.enter0 ad ae am an ap) (kv (rv_not u) (wq_nil ?_))
   rintro aH ⟨I,J,au⟩
   refine qe_seq (wcc aq u (fun aw s=>?_) (fun aw s=>?_))
   ·refine sr (lv (r_f u) (nq (wc_ret (qe_block_ret (qe_then_ret (qe_then_ret ?_))))))
    cases oi s
    cases C _ u
    refine qe_block_ret (qe_then_ret ?_)
    cases oi y
    refine qe_then_ret ?_
    cases oi i
    exact ey results158 ⟨I,u,J⟩
   refine wc_skip (qe_block (qe_seq (wc_region (mv u (lv (rv_add u u) (av u (wl_nil ?_)))))))
   cases oi s
   exact qd ⟨_,u,I,u,J,(f.trans au),(w64_rng _)⟩
  refine wc_exit (qe_then_exit (qe_then_exit ?_))
  cases oi q
  cases C _ u
  refine qe_block_eq ?_
  cases oi y
  exact qe_mid' ⟨_,U,u,u,D,f⟩ trivial
 rintro _ aI ⟨aJ,ax,rfl,rfl,ay,aK⟩
 have i:=elim_l i
 refine qr (lv (r_t u) (nq (wc_ret ?_)))
 cases oi i
 exact ey results158 ⟨ax,u,ay⟩

theorem ok_laws_eqAttr {q0:GAttr}{q1:GAttr}{r:Bool}(hS:SH w K [] w K [])(q:q0.Name.length≤maxLen)(s:rng64 q0.Num)(x:q1.Name.length≤maxLen)(y:rng64 q1.Num)(hm:M.laws_eqAttr F q0 q1=some r):
  Calls prog 213 #[.agg #[sv q0.Name,V6 q0.Num],.agg #[sv q1.Name,V6 q1.Num]] w (R_b w K r):=by
 rw [M.laws_eqAttr] at hm
 refine ci func213 u ntmps213 (sr (bx u hS fun f A i=>?_))
 have k:SH _ _ _ _ _ [obj f [sv q0.Name,V6 q0.Num] 142]:=i
 refine bx u k fun l B m=>?_
 have a:SH _ _ _ _ _ [obj l [sv q1.Name,V6 q1.Num] 142,_]:=m
 refine lv (r_f u) (nsr (fl ff142_0 u tf9 m1 a u (fl ff142_0 u tf9 m0 a u (lv (rv_sneq u u) (nq (wc_cond u (fun b=>?_) (fun b=>?_)))))))
 ·have c:=cond_t b hm
  refine sr (lv (r_f u) (nq (rr ?_)))
  cases oi c
  exact ey results213 ⟨K,u,a.s⟩
 have c:=cond_f b hm
 refine wc_skip (qs (sr (fl ff142_1 u tf3 m1 a u (fl ff142_1 u tf3 m0 a u (lv (rv_neq u u) (nq (wcc c u (fun o d=>?_) (fun o d=>?_))))))))
 ·refine sr (lv (r_f u) (nq (rr ?_)))
  cases oi d
  exact ey results213 ⟨K,u,a.s⟩
 refine wc_skip (qr (lv (r_t u) (nq (wc_ret ?_))))
 cases oi d
 exact ey results213 ⟨K,u,a.s⟩

theorem ok_laws_eqAttrS {q0:List GAttr}{q1:List GAttr}{r:Bool}(hS:SH w K [] w K [])(k:SliceAt tGAttr K A a b q0)(x:SliceAt tGAttr K B c d q1)(hm:M.laws_eqAttrS F q0 q1=some r):
  Calls prog 159 #[V3 A a b,V3 B c d] w (R_b w K r):=by
 rw [M.laws_eqAttrS] at hm
 refine ci func159 u ntmps159 (sr (lv (r_f u) (nsr (mv u (lv (rv_len underlying75 u k) (mv u (lv (rv_len underlying75 u x) (lv (rv_neq u u) (nq ?_)))))))))
 refine wc_cond u (fun l=>?_) (fun l=>?_)
 ·have m:=cond_t l hm
  refine sr (lv (r_f u) (nq (rr ?_)))
  cases oi m
  exact ey results159 ⟨K,u,hS⟩
 have m:=cond_f l hm
 refine wc_skip (qs (sr (lv (r_0 u) (nq ?_))))
 obtain⟨O,R,i⟩:=ob m
 refine wc_cutg (IE O w K [] K [] []) ?_ ?_
 ·refine wc_block ?_
  obtain⟨az,S,y⟩:=ob R
  refine qw (fun (o:Int)=>IW w K [] K [(0,V3 A a b),(1,V3 B c d),(5,V6 o)] [] (rng64 o)) S ⟨K,u,hS,kr,d_0⟩ ?_
  rintro o _ aA aB T C ⟨U,rfl,D,f,aC⟩
  refine wc_seq (sr (mv u (mv u (lv (rv_len underlying75 u (k.mono f)) (lv (rv_lss u u) (nq (wcc T u (fun V q=>?_) (fun V q=>?_))))))))
  ·refine wc_skip (qs (wc_block (wc_seq (wc_quiet mixed (by kernel_rfl) D (km u (km u ?_))))))
   obtain⟨G,W,X⟩:=ob q
   refine ki underlying75 tf142 (k.mono f) W fun Y aa aD ab ac=>?_
   obtain⟨rfl,ad,ae⟩:=ab
   have af:AtK _ Y aa [sv G.Name,V6 G.Num]:=ac
   refine kh (rq_loadS tf142 u af u) (km u (km u ?_))
   obtain⟨H,ag,ah⟩:=ob X
   refine ki underlying75 tf142 (x.mono f) ag fun ai aj aE ak al=>?_
   obtain⟨rfl,am,an⟩:=ak
   have ao:AtK _ ai aj [sv H.Name,V6 H.Num]:=al
   refine kh (rq_loadS tf142 u ao u) ?_
   obtain⟨aF,ap,aq⟩:=ob ah
   refine kc co213 (fun _ _ ar aG=>(ok_laws_eqAttr F) ar.enter0 ad ae am an ap) (kv (rv_not u) (wq_nil ?_))
   rintro aH ⟨I,J,au⟩
   refine qe_seq (wcc aq u (fun aw s=>?_) (fun aw s=>?_))
   ·refine sr (lv (r_f u) (nq (wc_ret (qe_block_ret (qe_then_ret (qe_then_ret ?_))))))
    cases oi s
    cases C _ u
    refine qe_block_ret (qe_then_ret ?_)
    cases oi y
    refine qe_then_ret ?_
    cases oi i
    exact ey results159 ⟨I,u,J⟩
   refine wc_skip (qe_block (qe_seq (wc_region (mv u (lv (rv_add u u) (av u (wl_nil ?_)))))))
   cases oi s
   exact qd ⟨_,u,I,u,J,(f.trans au),(w64_rng _)⟩
  refine wc_exit (qe_then_exit (qe_then_exit ?_))
  cases oi q
  cases C _ u
  refine qe_block_eq ?_
  cases oi y
  exact qe_mid' ⟨_,U,u,u,D,f⟩ trivial
 rintro _ aI ⟨aJ,ax,rfl,rfl,ay,aK⟩
 have i:=elim_l i
 refine qr (lv (r_t u) (nq (wc_ret ?_)))
 cases oi i
 exact ey results159 ⟨ax,u,ay⟩

theorem ok_laws_eqDoc {q0:GDoc}{q1:GDoc}{r:Bool}(hS:SH w K [] w K [])(ah:rng64 q0.Id)(J:SliceAt tGField K A a b q0.Fields)(O:SliceAt tGAttr K B c d q0.Nums)(ai:rng64 q1.Id)(R:SliceAt tGField K C f i q1.Fields)(S:SliceAt tGAttr K D k l q1.Nums)(hm:M.laws_eqDoc F q0 q1=some r):
  Calls prog 82 #[.agg #[V6 q0.Id,V3 A a b,V3 B c d],.agg #[V6 q1.Id,V3 C f i,V3 D k l]] w (R_b w K r):=by
 rw [M.laws_eqDoc] at hm
 refine ci func82 u ntmps82 (sr (bx u hS fun T aj U=>?_))
 have V:SH _ _ _ _ _ [obj T [V6 q0.Id,V3 A a b,V3 B c d] 77]:=U
 refine bx u V fun W ak X=>?_
 have m:SH _ _ _ _ _ [obj W [V6 q1.Id,V3 C f i,V3 D k l] 77,_]:=X
 refine lv (r_f u) (nsr (fl ff77_0 u tf3 m1 m u (fl ff77_0 u tf3 m0 m u (lv (rv_neq u u) (nq (wc_cond u (fun q=>?_) (fun q=>?_)))))))
 ·have s:=cond_t q hm
  refine sr (lv (r_f u) (nq (rr ?_)))
  cases oi s
  exact ey results82 ⟨K,u,m.s⟩
 have s:=cond_f q hm
 refine wc_skip (qs (sr (fl ff77_1 u tf74 m1 m u (fl ff77_1 u tf74 m0 m u ?_))))
 obtain⟨al,Y,aa⟩:=ob s
 refine lk co158 (ok_laws_eqFieldS F m.enter0 J R Y) ?_
 rintro am an ⟨ab,rfl,x⟩
 have o:=(m.c0 x).t2
 refine lv (rv_not u) (nq (wcc aa u (fun ac y=>?_) (fun ac y=>?_)))
 ·refine sr (lv (r_f u) (nq (rr ?_)))
  cases oi y
  exact ey results82 ⟨ab,u,o.s⟩
 refine wc_skip (qs (sr (fl ff77_2 u tf75 m1 o u (fl ff77_2 u tf75 m0 o u ?_))))
 obtain⟨ao,ad,ae⟩:=ob y
 refine lk co159 (ok_laws_eqAttrS F o.enter0 (O.mono x.le) (S.mono x.le) ad) ?_
 rintro ap aq ⟨H,rfl,af⟩
 have I:=(o.c0 af).t2
 refine lv (rv_not u) (nq (wcc ae u (fun ag G=>?_) (fun ag G=>?_)))
 ·refine sr (lv (r_f u) (nq (rr ?_)))
  cases oi G
  exact ey results82 ⟨H,u,I.s⟩
 refine wc_skip (qr (lv (r_t u) (nq (wc_ret ?_))))
 cases oi G
 exact ey results82 ⟨H,u,I.s⟩

theorem ok_laws_eqDocS {q0:List GDoc}{q1:List GDoc}{r:Bool}(hS:SH w K [] w K [])(l:SliceAt tGDoc K A a b q0)(y:SliceAt tGDoc K B c d q1)(hm:M.laws_eqDocS F q0 q1=some r):
  Calls prog 24 #[V3 A a b,V3 B c d] w (R_b w K r):=by
 rw [M.laws_eqDocS] at hm
 refine ci func24 u ntmps24 (sr (lv (r_f u) (nsr (mv u (lv (rv_len underlying43 u l) (mv u (lv (rv_len underlying43 u y) (lv (rv_neq u u) (nq ?_)))))))))
 refine wc_cond u (fun m=>?_) (fun m=>?_)
 ·have o:=cond_t m hm
  refine sr (lv (r_f u) (nq (rr ?_)))
  cases oi o
  exact ey results24 ⟨K,u,hS⟩
 have o:=cond_f m hm
 refine wc_skip (qs (sr (lv (r_0 u) (nq ?_))))
 obtain⟨J,O,i⟩:=ob o
 refine wc_cutg (IE J w K [] K [] []) ?_ ?_
 ·refine wc_block ?_
  obtain⟨aO,R,C⟩:=ob O
  refine qw (fun (q:Int)=>IW w K [] K [(0,V3 A a b),(1,V3 B c d),(5,V6 q)] [] (rng64 q)) R ⟨K,u,hS,kr,d_0⟩ ?_
  rintro q _ aP aQ S D ⟨T,rfl,G,f,aR⟩
  refine wc_seq (sr (mv u (mv u (lv (rv_len underlying43 u (l.mono f)) (lv (rv_lss u u) (nq (wcc S u (fun U s=>?_) (fun U s=>?_))))))))
  ·refine wc_skip (qs (wc_block (wc_seq (wc_quiet mixed (by kernel_rfl) G (km u (km u ?_))))))
   obtain⟨V,W,X⟩:=ob s
   refine ki underlying43 tf77 (l.mono f) W fun Y aa aS ab ac=>?_
   obtain⟨ad,ae,af,ag,ah,ai,rfl,aj,ak,al⟩:=ab
   have am:AtK _ Y aa [V6 V.Id,V3 ad ae af,V3 ag ah ai]:=ac
   refine kh (rq_loadS tf77 u am u) (km u (km u ?_))
   obtain⟨an,ao,ap⟩:=ob X
   refine ki underlying43 tf77 (y.mono f) ao fun aq ar aT au aw=>?_
   obtain⟨ax,ay,az,aA,aB,aC,rfl,aD,aE,aF⟩:=au
   have aG:AtK _ aq ar [V6 an.Id,V3 ax ay az,V3 aA aB aC]:=aw
   refine kh (rq_loadS tf77 u aG u) ?_
   obtain⟨aU,aH,aI⟩:=ob ap
   refine kc co82 (fun _ _ aJ k=>(ok_laws_eqDoc F) aJ.enter0 aj (ak.mono k) (al.mono k) aD (aE.mono k) (aF.mono k) aH) (kv (rv_not u) (wq_nil ?_))
   rintro aV ⟨H,I,aK⟩
   refine qe_seq (wcc aI u (fun aL x=>?_) (fun aL x=>?_))
   ·refine sr (lv (r_f u) (nq (wc_ret (qe_block_ret (qe_then_ret (qe_then_ret ?_))))))
    cases oi x
    cases D _ u
    refine qe_block_ret (qe_then_ret ?_)
    cases oi C
    refine qe_then_ret ?_
    cases oi i
    exact ey results24 ⟨H,u,I⟩
   refine wc_skip (qe_block (qe_seq (wc_region (mv u (lv (rv_add u u) (av u (wl_nil ?_)))))))
   cases oi x
   exact qd ⟨_,u,H,u,I,(f.trans aK),(w64_rng _)⟩
  refine wc_exit (qe_then_exit (qe_then_exit ?_))
  cases oi s
  cases D _ u
  refine qe_block_eq ?_
  cases oi C
  exact qe_mid' ⟨_,T,u,u,G,f⟩ trivial
 rintro _ aW ⟨aX,aM,rfl,rfl,aN,aY⟩
 have i:=elim_l i
 refine qr (lv (r_t u) (nq (wc_ret ?_)))
 cases oi i
 exact ey results24 ⟨aM,u,aN⟩
end Go.Proofs.YtpjefkdclnmlfaaGreat
