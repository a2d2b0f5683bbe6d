import Derived.Test.YtpjefkdclnmlfaaGreatModel
/-
  What the reader of drawn codes gives: every draw goes through. Of no program.
-/
namespace Go.Fk
open Go
theorem xorI_nonneg {a b:Int}(ha:0≤a)(ha':a≤9223372036854775807)(hb:0≤b)(hb':b≤9223372036854775807):0≤xorI a b:=by
 unfold xorI
 obtain⟨x,rfl⟩:=Int.eq_ofNat_of_zero_le ha
 obtain⟨y,rfl⟩:=Int.eq_ofNat_of_zero_le hb
 have hx:x ^^^ y<2 ^ 63:=Nat.xor_lt_two_pow (by omega) (by omega)
 have e:(BitVec.ofInt 64 (x:Int) ^^^ BitVec.ofInt 64 (y:Int)).toNat=x ^^^ y:=by
  rw [BitVec.toNat_xor]
  simp only [BitVec.ofInt_natCast,BitVec.toNat_ofNat]
  rw [Nat.mod_eq_of_lt (by omega),Nat.mod_eq_of_lt (by omega)]
 rw [e,w64_of ⟨by omega,by omega⟩]
 omega
theorem getI_lt {α:Type}{xs:List α}{i:Int}(h0:0≤i)(h:i<xs.length): ∃x,getI xs i=some x:=by
 unfold getI
 rw [if_pos h0]
 exact⟨_,List.getElem?_eq_getElem (by omega)⟩
def RdOk (r:GL30Rd):Prop:=r.b_.length≤2000∧0≤r.p_∧r.p_≤1000000000
theorem pick_ok (F:Nat)(r:GL30Rd)(n:Int)(hr:RdOk r): ∃x,M.spec_l30Rd_pick F r n=some (x,⟨r.b_,r.p_+1⟩)∧0≤x∧(1≤n→x<n):=by
 obtain⟨b,p⟩:=r
 obtain⟨hb,h0,h1⟩:=hr
 simp only at hb h0 h1
 unfold M.spec_l30Rd_pick
 have e1:w64 (p+1)=p+1:=w64_of ⟨by omega,by omega⟩
 have e2:w64 (p+1-1)=p:=by rw [w64_of ⟨by omega,by omega⟩];omega
 dsimp only
 rw [e1,e2]
 by_cases hn:n<1
 ·rw [decide_eq_true hn,cond_true,Option.bind_some,cond_true]
  exact⟨0,rfl,Int.le_refl _,fun h=>by omega⟩
 ·rw [decide_eq_false hn,cond_false,Option.bind_some]
  cases b with
  | nil=>
   rw [show ((([]:List UInt8).length:Int)==(0:Int))=true from rfl,cond_true]
   exact⟨0,rfl,Int.le_refl _,fun h=>by omega⟩
  | cons c b=>
   have hl:(0:Int)<((c::b).length:Int):=by rw [List.length_cons];omega
   generalize (c::b)=b at *
   rw [show (((b.length:Int))==(0:Int))=false by rw [beq_eq_false_iff_ne];omega,cond_false]
   have hrem: ∀x:Int,0≤x→∃y,remI x n=some y∧0≤y∧y<n:=fun x hx=>by
    refine⟨x.tmod n,by rw [remI,if_neg (by omega)],Int.tmod_nonneg _ hx,Int.tmod_lt_of_pos _ (by omega)⟩
   have hrb: ∀x:Int,0≤x→∃y,remI x b.length=some y∧0≤y∧y<b.length:=fun x hx=>by
    refine⟨x.tmod b.length,by rw [remI,if_neg (by omega)],Int.tmod_nonneg _ hx,Int.tmod_lt_of_pos _ (by omega)⟩
   by_cases hp:p<b.length
   ·rw [decide_eq_true hp,cond_true]
    obtain⟨x,hx⟩:=getI_lt h0 hp
    obtain⟨y,hy,y0,y1⟩:=hrem (x.toNat:Int) (by omega)
    rw [hx,Option.bind_some,hy,Option.bind_some]
    exact⟨y,rfl,y0,fun _=>y1⟩
   ·rw [decide_eq_false hp,cond_false]
    obtain⟨i,hi,i0,i1⟩:=hrb p h0
    obtain⟨x,hx⟩:=getI_lt i0 i1
    have e7:w64 (p*7)=p*7:=w64_of ⟨by omega,by omega⟩
    have e8:w64 (p*7+3)=p*7+3:=w64_of ⟨by omega,by omega⟩
    obtain⟨j,hj,j0,j1⟩:=hrb (p*7+3) (by omega)
    obtain⟨y,hy⟩:=getI_lt j0 j1
    have hq: ∃q,quoI p b.length=some q∧0≤q∧q≤p:=by
     have q0:0≤p.tdiv b.length:=Int.tdiv_nonneg h0 (by omega)
     have q1:p.tdiv b.length≤p:=by rw [Int.tdiv_eq_ediv_of_nonneg h0];exact Int.ediv_le_self _ h0
     exact⟨p.tdiv b.length,by rw [quoI,if_neg (by omega),w64_of ⟨by omega,by omega⟩],q0,q1⟩
    obtain⟨q,hq,q0,q1⟩:=hq
    have bx:=x.toNat_lt
    have by':=y.toNat_lt
    have f1:w64 ((x.toNat:Int)*131)=(x.toNat:Int)*131:=w64_of ⟨by omega,by omega⟩
    have f2:w64 ((y.toNat:Int)*1117)=(y.toNat:Int)*1117:=w64_of ⟨by omega,by omega⟩
    have f3:w64 (p*29)=p*29:=w64_of ⟨by omega,by omega⟩
    have f4:w64 (q*53)=q*53:=w64_of ⟨by omega,by omega⟩
    have f5:w64 ((x.toNat:Int)*131+(y.toNat:Int)*1117)=(x.toNat:Int)*131+(y.toNat:Int)*1117:=w64_of ⟨by omega,by omega⟩
    have f6:w64 ((x.toNat:Int)*131+(y.toNat:Int)*1117+p*29)=(x.toNat:Int)*131+(y.toNat:Int)*1117+p*29:=w64_of ⟨by omega,by omega⟩
    have f7:w64 ((x.toNat:Int)*131+(y.toNat:Int)*1117+p*29+q*53)=(x.toNat:Int)*131+(y.toNat:Int)*1117+p*29+q*53:=w64_of ⟨by omega,by omega⟩
    rw [hi,Option.bind_some,hx,Option.bind_some,e7,e8,hj,Option.bind_some,hy,Option.bind_some,hq,Option.bind_some,f1,f2,f3,f4,f5,f6,f7]
    generalize hz:(x.toNat:Int)*131+(y.toNat:Int)*1117+p*29+q*53=z
    have z0:0≤z:=by omega
    have z1:z≤1000000000000:=by omega
    have hd:quoI z 64=some (z/64):=by
     rw [quoI,if_neg (by decide),Int.tdiv_eq_ediv_of_nonneg z0,w64_of ⟨by omega,by omega⟩]
    rw [Option.bind_some,hd,Option.bind_some]
    obtain⟨y,hy,y0,y1⟩:=hrem (xorI z (z/64)) (xorI_nonneg z0 (by omega) (by omega) (by omega))
    rw [hy,Option.bind_some]
    exact⟨y,rfl,y0,fun _=>y1⟩
theorem open_ok (F:Nat)(code:List UInt8): ∃r,M.spec_l30Open F code=some r∧r.b_.length≤2000∧r.p_=0:=by
 unfold M.spec_l30Open
 by_cases h:(2000:Int)<(code.length:Int)
 ·rw [decide_eq_true h,cond_true]
  unfold subL
  rw [if_pos ⟨by decide,by decide,by omega⟩]
  refine⟨_,rfl,?_,rfl⟩
  simp
  omega
 ·rw [decide_eq_false h,cond_false]
  exact⟨_,rfl,by simp only;omega,rfl⟩
end Go.Fk
namespace Go.Fk
open Go
theorem of_ok (F:Nat)(r:GL30Rd)(l:List Str)(hr:RdOk r)(hl:l≠[]): ∃s∈l,M.spec_l30Rd_of F r l=some (s,⟨r.b_,r.p_+1⟩):=by
 unfold M.spec_l30Rd_of
 have hpos:0<l.length:=List.length_pos_iff.2 hl
 obtain⟨x,hx,x0,x1⟩:=pick_ok F r (l.length:Int) hr
 have x1:=x1 (by omega)
 rw [hx,Option.bind_some]
 unfold getI
 rw [if_pos x0,List.getElem?_eq_getElem (show x.toNat<l.length by omega)]
 exact⟨_,List.getElem_mem _,rfl⟩
end Go.Fk
namespace Go.Fk
open Go
theorem one_ok (F:Nat)(r:GL30Rd)(l:List Int)(hr:RdOk r)(hl:l≠[]): ∃s∈l,M.spec_l30Rd_one F r l=some (s,⟨r.b_,r.p_+1⟩):=by
 unfold M.spec_l30Rd_one
 have hpos:0<l.length:=List.length_pos_iff.2 hl
 obtain⟨x,hx,x0,x1⟩:=pick_ok F r (l.length:Int) hr
 have x1:=x1 (by omega)
 rw [hx,Option.bind_some]
 unfold getI
 rw [if_pos x0,List.getElem?_eq_getElem (show x.toNat<l.length by omega)]
 exact⟨_,List.getElem_mem _,rfl⟩
end Go.Fk
namespace Go.Fk
open Go
theorem raw_ok (F:Nat)(r:GL30Rd)(hr:RdOk r): ∃s,M.spec_l30Raw F r=some (s,⟨r.b_,r.p_+1⟩)∧s.length≤17:=by
 unfold M.spec_l30Raw
 obtain⟨s,hm,hs⟩:=of_ok F r (l:=([([99,97,116]:Str),([67,97,116,115]:Str),([100,111,103]:Str),([100,111,103,115]:Str),([114,117,110]:Str),([82,85,78,78,73,78,71]:Str),([116,104,101]:Str),([114,101,100]:Str),([98,105,103]:Str),([110,101,119,32,121,111,114,107]:Str),([78,101,119,32,32,89,111,114,107]:Str),([110,121]:Str),([102,111,120]:Str),([112,97,115,115,101,100]:Str),([120,49]:Str),([97,118,101,114,121,118,101,114,121,108,111,110,103,119,111,114,100]:Str)]:List Str)) hr (by simp)
 rw [hs]
 exact⟨s,rfl,(by decide : ∀s∈([([99,97,116]:Str),([67,97,116,115]:Str),([100,111,103]:Str),([100,111,103,115]:Str),([114,117,110]:Str),([82,85,78,78,73,78,71]:Str),([116,104,101]:Str),([114,101,100]:Str),([98,105,103]:Str),([110,101,119,32,121,111,114,107]:Str),([78,101,119,32,32,89,111,114,107]:Str),([110,121]:Str),([102,111,120]:Str),([112,97,115,115,101,100]:Str),([120,49]:Str),([97,118,101,114,121,118,101,114,121,108,111,110,103,119,111,114,100]:Str)]:List Str),s.length≤17) s hm⟩
theorem text_ok (F:Nat)(r:GL30Rd)(hr:r.b_.length≤2000∧0≤r.p_∧r.p_≤1000000)(hF:20≤F): ∃s p,M.spec_l30Text F r=some (s,⟨r.b_,p⟩)∧r.p_≤p∧p≤r.p_+100∧s.length≤200:=by
 obtain⟨h1,h2,h3⟩:=hr
 unfold M.spec_l30Text
 obtain⟨n,hn,n0,n1⟩:=pick_ok F r 9 ⟨h1,h2,by omega⟩
 have n1:=n1 (by decide)
 rw [hn,Option.bind_some]
 simp only
 generalize hf:(fun (s34:Str×Int×GL30Rd)=>_:Str×Int×GL30Rd→Option ((Str×Int×GL30Rd)⊕(Str×GL30Rd)))=f
 have key: ∀(k:Nat) (s:Str) (p:Int) (F:Nat),k+1≤F→0≤p→p+2*k≤2000000→s.length+19*k≤19*8→k≤8→∃s' p',whileM f F (s,(k:Int),⟨r.b_,p⟩)=some (s',⟨r.b_,p'⟩)∧p≤p'∧p'≤p+2*k∧s'.length≤s.length+19*k:=by
  intro k
  induction k with
  | zero=>
   intro s p F hF _ _ _ _
   obtain⟨F,rfl⟩: ∃G,F=G+1:=⟨F-1,by omega⟩
   rw [whileM]
   subst hf
   exact⟨s,p,rfl,by omega,by omega,by omega⟩
  | succ k ih=>
   intro s p F' hF' p0 p1 hs hk
   obtain⟨F',rfl⟩: ∃G,F'=G+1:=⟨F'-1,by omega⟩
   obtain⟨a,ha,hal⟩:=raw_ok F ⟨r.b_,p⟩ ⟨h1,p0,by simp only;omega⟩
   obtain⟨b,hbm,hb⟩:=of_ok F ⟨r.b_,p+1⟩ ([([32]:Str),([32]:Str),([44,32]:Str),([45]:Str),([46,32]:Str)]:List Str) ⟨h1,by simp only;omega,by simp only;omega⟩ (by simp)
   have hbl:b.length≤2:=(by decide : ∀s∈([([32]:Str),([32]:Str),([44,32]:Str),([45]:Str),([46,32]:Str)]:List Str),s.length≤2) b hbm
   have hstep:f (s,((k+1:Nat):Int),⟨r.b_,p⟩)=some (.inl (s++a++b,(k:Int),⟨r.b_,p+1+1⟩)):=by
    rw [←hf]
    simp only
    rw [decide_eq_true (by omega),cond_true,ha,Option.bind_some]
    simp only
    have hm:1000≤maxLen:=by decide
    have c1:catS s a=some (s++a):=by rw [catS,if_pos (by omega)]
    have c2:catS (s++a) b=some (s++a++b):=by rw [catS,if_pos (by rw [List.length_append];omega)]
    have c3:w64 (((k+1:Nat):Int)-1)=(k:Int):=by rw [w64_of ⟨by omega,by omega⟩];omega
    rw [c1,Option.bind_some,hb,Option.bind_some]
    simp only
    rw [c2,Option.bind_some,c3]
   rw [whileM,hstep]
   simp only [Option.bind_some,Sum.elim_inl]
   obtain⟨s',p',hw,a1,a2,a3⟩:=ih (s++a++b) (p+1+1) F' (by omega) (by omega) (by omega) (by simp only [List.length_append];omega) (by omega)
   refine⟨s',p',hw,by omega,by omega,?_⟩
   simp only [List.length_append] at a3
   omega
 obtain⟨k,rfl⟩:=Int.eq_ofNat_of_zero_le n0
 obtain⟨s',p',hw,a1,a2,a3⟩:=key k [] (r.p_+1) F (by omega) (by omega) (by omega) (by simp only [List.length_nil];omega) (by omega)
 rw [hw]
 exact⟨s',p',rfl,by omega,by omega,by simp only [List.length_nil] at a3;omega⟩
end Go.Fk
