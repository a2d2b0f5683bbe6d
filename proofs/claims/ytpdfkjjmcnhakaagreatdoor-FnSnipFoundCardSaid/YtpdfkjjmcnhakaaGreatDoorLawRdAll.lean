import Derived.Test.YtpdfkjjmcnhakaaGreatDoorModel
/-
  What the reader of drawn codes gives: every draw goes through. Of no program.
-/
namespace Go.Fk
open Go
theorem b2u {a b:Int}(ha:0≤a)(ha':a≤9223372036854775807)(hb:0≤b)(hb':b≤9223372036854775807):0≤b5o a b:=by
 unfold b5o
 obtain⟨x,rfl⟩:=Int.eq_ofNat_of_zero_le ha
 obtain⟨y,rfl⟩:=Int.eq_ofNat_of_zero_le hb
 have hx:x ^^^ y<2 ^ 63:=Nat.xor_lt_two_pow (by omega) (by omega)
 have e:(BitVec.ofInt 64 (x:Int) ^^^ BitVec.ofInt 64 (y:Int)).toNat=x ^^^ y:=by
  rw [BitVec.toNat_xor]
  simp only [BitVec.ofInt_natCast,BitVec.toNat_ofNat]
  rw [Nat.mod_eq_of_lt (by omega),Nat.mod_eq_of_lt (by omega)]
 rw [e,B9 ⟨by omega,by omega⟩]
 omega
theorem a7O {α:Type}{xs:List α}{i:Int}(h0:0≤i)(h:i<xs.length): ∃x,p8 xs i=some x:=by
 unfold p8
 rw [if_pos h0]
 exact⟨_,i6 (by omega)⟩
def b8l (r:y2):Prop:=r.b_.length≤2000∧0≤r.p_∧r.p_≤1000000000
theorem U2 (F:Nat)(r:y2)(n:Int)(hr:b8l r): ∃x,y9 F r n=some (x,⟨r.b_,r.p_+1⟩)∧0≤x∧(1≤n→x<n):=by
 obtain⟨b,p⟩:=r
 obtain⟨hb,h0,h1⟩:=hr
 simp only at hb h0 h1
 unfold y9
 have e1:y8 (p+1)=p+1:=B9 ⟨by omega,by omega⟩
 have e2:y8 (p+1-1)=p:=by rw [B9 ⟨by omega,by omega⟩];omega
 dsimp only
 rw [e1,e2]
 by_cases hn:n<1
 ·rw [b8 hn,j6,a8,j6]
  exact⟨0,rfl,Int.le_refl _,fun h=>by omega⟩
 ·rw [c6 hn,i9,a8]
  cases b with
  | nil=>
   rw [show ((([]:List UInt8).length:Int)==(0:Int))=true from rfl,j6]
   exact⟨0,rfl,Int.le_refl _,fun h=>by omega⟩
  | cons c b=>
   have hl:(0:Int)<((c::b).length:Int):=by rw [l9];omega
   generalize (c::b)=b at *
   rw [show (((b.length:Int))==(0:Int))=false by rw [beq_eq_false_iff_ne];omega,i9]
   have hrem: ∀x:Int,0≤x→∃y,a5x x n=some y∧0≤y∧y<n:=fun x hx=>by
    refine⟨x.tmod n,by rw [a5x,if_neg (by omega)],Int.tmod_nonneg _ hx,Int.tmod_lt_of_pos _ (by omega)⟩
   have hrb: ∀x:Int,0≤x→∃y,a5x x b.length=some y∧0≤y∧y<b.length:=fun x hx=>by
    refine⟨x.tmod b.length,by rw [a5x,if_neg (by omega)],Int.tmod_nonneg _ hx,Int.tmod_lt_of_pos _ (by omega)⟩
   by_cases hp:p<b.length
   ·rw [b8 hp,j6]
    obtain⟨x,hx⟩:=a7O h0 hp
    obtain⟨y,hy,y0,y1⟩:=hrem (x.toNat:Int) (by omega)
    rw [hx,a8,hy,a8]
    exact⟨y,rfl,y0,fun _=>y1⟩
   ·rw [c6 hp,i9]
    obtain⟨i,hi,i0,i1⟩:=hrb p h0
    obtain⟨x,hx⟩:=a7O i0 i1
    have e7:y8 (p*7)=p*7:=B9 ⟨by omega,by omega⟩
    have e8:y8 (p*7+3)=p*7+3:=B9 ⟨by omega,by omega⟩
    obtain⟨j,hj,j0,j1⟩:=hrb (p*7+3) (by omega)
    obtain⟨y,hy⟩:=a7O j0 j1
    have hq: ∃q,a2w p b.length=some q∧0≤q∧q≤p:=by
     have q0:0≤p.tdiv b.length:=Int.tdiv_nonneg h0 (by omega)
     have q1:p.tdiv b.length≤p:=by rw [Int.tdiv_eq_ediv_of_nonneg h0];exact Int.ediv_le_self _ h0
     exact⟨p.tdiv b.length,by rw [a2w,if_neg (by omega),B9 ⟨by omega,by omega⟩],q0,q1⟩
    obtain⟨q,hq,q0,q1⟩:=hq
    have bx:=x.toNat_lt
    have by':=y.toNat_lt
    have f1:y8 ((x.toNat:Int)*131)=(x.toNat:Int)*131:=B9 ⟨by omega,by omega⟩
    have f2:y8 ((y.toNat:Int)*1117)=(y.toNat:Int)*1117:=B9 ⟨by omega,by omega⟩
    have f3:y8 (p*29)=p*29:=B9 ⟨by omega,by omega⟩
    have f4:y8 (q*53)=q*53:=B9 ⟨by omega,by omega⟩
    have f5:y8 ((x.toNat:Int)*131+(y.toNat:Int)*1117)=(x.toNat:Int)*131+(y.toNat:Int)*1117:=B9 ⟨by omega,by omega⟩
    have f6:y8 ((x.toNat:Int)*131+(y.toNat:Int)*1117+p*29)=(x.toNat:Int)*131+(y.toNat:Int)*1117+p*29:=B9 ⟨by omega,by omega⟩
    have f7:y8 ((x.toNat:Int)*131+(y.toNat:Int)*1117+p*29+q*53)=(x.toNat:Int)*131+(y.toNat:Int)*1117+p*29+q*53:=B9 ⟨by omega,by omega⟩
    rw [hi,a8,hx,a8,e7,e8,hj,a8,hy,a8,hq,a8,f1,f2,f3,f4,f5,f6,f7]
    generalize hz:(x.toNat:Int)*131+(y.toNat:Int)*1117+p*29+q*53=z
    have z0:0≤z:=by omega
    have z1:z≤1000000000000:=by omega
    have hd:a2w z 64=some (z/64):=by
     rw [a2w,if_neg (by decide),Int.tdiv_eq_ediv_of_nonneg z0,B9 ⟨by omega,by omega⟩]
    rw [a8,hd,a8]
    obtain⟨y,hy,y0,y1⟩:=hrem (b5o z (z/64)) (b2u z0 (by omega) (by omega) (by omega))
    rw [hy,a8]
    exact⟨y,rfl,y0,fun _=>y1⟩
theorem b7s (F:Nat)(code:List UInt8): ∃r,Y9 F code=some r∧r.b_.length≤2000∧r.p_=0:=by
 unfold Y9
 by_cases h:(2000:Int)<(code.length:Int)
 ·rw [b8 h,j6]
  unfold Z6
  rw [if_pos ⟨by decide,by decide,by omega⟩]
  refine⟨_,rfl,?_,rfl⟩
  simp
  omega
 ·rw [c6 h,i9]
  exact⟨_,rfl,by simp only;omega,rfl⟩
end Go.Fk
namespace Go.Fk
open Go
theorem b3H (F:Nat)(r:y2)(l:List l3)(hr:b8l r)(hl:l≠[]): ∃s∈l,J1 F r l=some (s,⟨r.b_,r.p_+1⟩):=by
 unfold J1
 have hpos:0<l.length:=List.length_pos_iff.2 hl
 obtain⟨x,hx,x0,x1⟩:=U2 F r (l.length:Int) hr
 have x1:=x1 (by omega)
 rw [hx,a8]
 unfold p8
 rw [if_pos x0,i6 (show x.toNat<l.length by omega)]
 exact⟨_,List.getElem_mem _,rfl⟩
end Go.Fk
namespace Go.Fk
open Go
end Go.Fk
namespace Go.Fk
open Go
theorem b8S (F:Nat)(r:y2)(hr:b8l r): ∃s,a0z F r=some (s,⟨r.b_,r.p_+1⟩)∧s.length≤17:=by
 unfold a0z
 obtain⟨s,hm,hs⟩:=b3H F r (l:=([([99,97,116]:l3),([67,97,116,115]:l3),([100,111,103]:l3),([100,111,103,115]:l3),([114,117,110]:l3),([82,85,78,78,73,78,71]:l3),([116,104,101]:l3),([114,101,100]:l3),([98,105,103]:l3),([110,101,119,32,121,111,114,107]:l3),([78,101,119,32,32,89,111,114,107]:l3),([110,121]:l3),([102,111,120]:l3),([112,97,115,115,101,100]:l3),([120,49]:l3),([97,118,101,114,121,118,101,114,121,108,111,110,103,119,111,114,100]:l3)]:List l3)) hr (by simp)
 rw [hs]
 exact⟨s,rfl,(by decide : ∀s∈([([99,97,116]:l3),([67,97,116,115]:l3),([100,111,103]:l3),([100,111,103,115]:l3),([114,117,110]:l3),([82,85,78,78,73,78,71]:l3),([116,104,101]:l3),([114,101,100]:l3),([98,105,103]:l3),([110,101,119,32,121,111,114,107]:l3),([78,101,119,32,32,89,111,114,107]:l3),([110,121]:l3),([102,111,120]:l3),([112,97,115,115,101,100]:l3),([120,49]:l3),([97,118,101,114,121,118,101,114,121,108,111,110,103,119,111,114,100]:l3)]:List l3),s.length≤17) s hm⟩
theorem b36 (F:Nat)(r:y2)(hr:r.b_.length≤2000∧0≤r.p_∧r.p_≤1000000)(hF:20≤F): ∃s p,L6 F r=some (s,⟨r.b_,p⟩)∧r.p_≤p∧p≤r.p_+100∧s.length≤200:=by
 obtain⟨h1,h2,h3⟩:=hr
 unfold L6
 obtain⟨n,hn,n0,n1⟩:=U2 F r 9 ⟨h1,h2,by omega⟩
 have n1:=n1 (by decide)
 rw [hn,a8]
 simp only
 generalize hf:(fun (s34:l3×Int×y2)=>_:l3×Int×y2→Option ((l3×Int×y2)⊕(l3×y2)))=f
 have key: ∀(k:Nat) (s:l3) (p:Int) (F:Nat),k+1≤F→0≤p→p+2*k≤2000000→s.length+19*k≤19*8→k≤8→∃s' p',u0 f F (s,(k:Int),⟨r.b_,p⟩)=some (s',⟨r.b_,p'⟩)∧p≤p'∧p'≤p+2*k∧s'.length≤s.length+19*k:=by
  intro k
  induction k with
  | zero=>
   intro s p F hF _ _ _ _
   obtain⟨F,rfl⟩: ∃G,F=G+1:=⟨F-1,by omega⟩
   rw [u0]
   subst hf
   exact⟨s,p,rfl,by omega,by omega,by omega⟩
  | succ k ih=>
   intro s p F' hF' p0 p1 hs hk
   obtain⟨F',rfl⟩: ∃G,F'=G+1:=⟨F'-1,by omega⟩
   obtain⟨a,ha,hal⟩:=b8S F ⟨r.b_,p⟩ ⟨h1,p0,by simp only;omega⟩
   obtain⟨b,hbm,hb⟩:=b3H F ⟨r.b_,p+1⟩ ([([32]:l3),([32]:l3),([44,32]:l3),([45]:l3),([46,32]:l3)]:List l3) ⟨h1,by simp only;omega,by simp only;omega⟩ (by simp)
   have hbl:b.length≤2:=(by decide : ∀s∈([([32]:l3),([32]:l3),([44,32]:l3),([45]:l3),([46,32]:l3)]:List l3),s.length≤2) b hbm
   have hstep:f (s,((k+1:Nat):Int),⟨r.b_,p⟩)=some (.inl (s++a++b,(k:Int),⟨r.b_,p+1+1⟩)):=by
    rw [←hf]
    simp only
    rw [b8 (by omega),j6,ha,a8]
    simp only
    have hm:1000≤maxLen:=by decide
    have c1:a18 s a=some (s++a):=by rw [a18,if_pos (by omega)]
    have c2:a18 (s++a) b=some (s++a++b):=by rw [a18,if_pos (by rw [j8];omega)]
    have c3:y8 (((k+1:Nat):Int)-1)=(k:Int):=by rw [B9 ⟨by omega,by omega⟩];omega
    rw [c1,a8,hb,a8]
    simp only
    rw [c2,a8,c3]
   rw [u0,hstep]
   simp only [a8,Sum.elim_inl]
   obtain⟨s',p',hw,a1,a2,a3⟩:=ih (s++a++b) (p+1+1) F' (by omega) (by omega) (by omega) (by simp only [j8];omega) (by omega)
   refine⟨s',p',hw,by omega,by omega,?_⟩
   simp only [j8] at a3
   omega
 obtain⟨k,rfl⟩:=Int.eq_ofNat_of_zero_le n0
 obtain⟨s',p',hw,a1,a2,a3⟩:=key k [] (r.p_+1) F (by omega) (by omega) (by omega) (by simp only [List.length_nil];omega) (by omega)
 rw [hw]
 exact⟨s',p',rfl,by omega,by omega,by simp only [List.length_nil] at a3;omega⟩
end Go.Fk
