/-
  The program's and the reference's tests of documents say the same. Of no program.
-/
import Derived.Test.YtpdfkjjmcnhakaaGreatDoorLawBase
namespace Go.Fk
open Go
def a4D (b:UInt8):Bool:= !(decide (b<32)||decide (126<b))
def O9 (s:l3):Bool:=s.all a4D&&decide ((s.length:Int)≤160)
theorem a4O (F:Nat)(s:l3):N4 F s=some (O9 s):=by
 unfold N4 O9
 rw [Q4 (p:=a4D) (xs:=s) (fun i x hx=>?_) s.length 0 (by omega),List.drop_zero]
 ·cases s.all a4D<;>rfl
 ·rw [l8,hx,a8]
  unfold a4D
  cases decide (x<(32:UInt8))
  ·rw [i9,a8,a8]
   cases decide ((126:UInt8)<x)<;>rfl
  ·rfl
theorem a96 (F:Nat)(s:l3)(hF:s.length<F)(hl:s.length≤2000000):W5 F s=some (O9 s):=by
 unfold W5 O9
 have key:=fun f h h0=>a2Y (p:=a4D) (xs:=s) (f:=f) h h0 s.length 0 F (by omega) hF
 rw [show (0:Int)=((0:Nat):Int) from rfl,key _ (fun i x hx=>?_) ?_,List.drop_zero]
 ·cases s.all a4D<;>rfl
 ·rw [c6 (by omega)];rfl
 ·have hi:=(g8.1 hx).1
  rw [b8 (by omega),j6,l8,hx,a8,u4 (by omega)]
  unfold a4D
  cases decide (x<(32:UInt8))
  ·rw [i9,a8,a8]
   cases decide ((126:UInt8)<x)<;>rfl
  ·rfl
def a2a (f:I3):Bool:=A1 f.Name&&O9 f.Text
def a1F (f g:I3):Bool:=y7 f.Name g.Name
def a3u (a:a1J):Bool:=A1 a.Name&&(decide (0≤a.Num)&&decide (a.Num≤999999999))
def a33 (f g:a1J):Bool:=y7 f.Name g.Name
def a1Q (d:u1):Bool:=(a1c a2a a1F d.Fields&&a1c a3u a33 d.Nums)&&((decide (1≤d.Id)&&decide (d.Id≤9999))&&(decide ((d.Fields.length:Int)≤3)&&decide ((d.Nums.length:Int)≤3)))
theorem a8g (a b:Int):decide (a<b)= !decide (b≤a):=by
 by_cases h:a<b
 ·rw [b8 h,c6 (by omega)];rfl
 ·rw [c6 h,b8 (by omega)];rfl
theorem a8n (F:Nat)(d:u1):T5 F d=some (a1Q d):=by
 unfold T5 a1Q
 rw [F9,a8]
 cases hid:(decide (1≤d.Id)&&decide (d.Id≤9999)) with
 | false=>rw [Bool.false_and,Bool.and_false];rfl
 | true=>
  rw [n5,i9,a8g 3 (d.Fields.length:Int),a8g 3 (d.Nums.length:Int)]
  by_cases hf:(d.Fields.length:Int)≤3
  ·by_cases hn:(d.Nums.length:Int)≤3
   ·rw [b8 hf,b8 hn]
    simp only [n5,i9,a8]
    rw [a3g (ok:=a2a) (lt:=a1F) (xs:=d.Fields) (fun i x hx=>?_)]
    ·cases a1c a2a a1F d.Fields with
     | false=>rfl
     | true=>
      simp only [if_true,a8,Sum.elim_inl]
      rw [a3g (ok:=a3u) (lt:=a33) (xs:=d.Nums) (fun i x hx=>?_)]
      ·cases a1c a3u a33 d.Nums<;>rfl
      ·have hi:=(g8.1 hx).1
       rw [l8,hx,a8,F3,a8]
       unfold a3u a33
       cases A1 x.Name with
       | false=>rfl
       | true=>
        rw [n5,i9,F9,a8]
        cases (decide (0≤x.Num)&&decide (x.Num≤999999999)) with
        | false=>rfl
        | true=>
         by_cases h0:i=0
         ·subst h0;rfl
         ·rw [n5,i9,b8 (show (0:Int)<(i:Int) by omega),j6,Z7 (by omega) (by omega),l8,i6 (show i-1<d.Nums.length by omega),a8,c6 h0]
          simp only [Option.elim_some,Bool.false_or]
          cases y7 d.Nums[i-1].Name x.Name<;>rfl
    ·have hi:=(g8.1 hx).1
     rw [l8,hx,a8,F3,a8]
     unfold a2a a1F
     cases A1 x.Name with
     | false=>rfl
     | true=>
      rw [n5,i9,a4O,a8]
      cases O9 x.Text with
      | false=>rfl
      | true=>
       by_cases h0:i=0
       ·subst h0;rfl
       ·rw [n5,i9,b8 (show (0:Int)<(i:Int) by omega),j6,Z7 (by omega) (by omega),l8,i6 (show i-1<d.Fields.length by omega),a8,c6 h0]
        simp only [Option.elim_some,Bool.false_or]
        cases y7 d.Fields[i-1].Name x.Name<;>rfl
   ·rw [b8 hf,c6 hn,Bool.and_false,Bool.and_false,Bool.and_false];rfl
  ·rw [c6 hf,Bool.false_and,Bool.and_false,Bool.and_false];rfl
structure a3Y (d:u1):Prop where
 fields:d.Fields.length≤100
 nums:d.Nums.length≤100
 field: ∀f∈d.Fields,f.Name.length≤1000∧f.Text.length≤1000
 num: ∀a∈d.Nums,a.Name.length≤1000
structure b2v (B:Nat)(d:u1):Prop where
 fields:d.Fields.length≤B
 nums:d.Nums.length≤B
 field: ∀f∈d.Fields,f.Name.length≤B∧f.Text.length≤B
 num: ∀a∈d.Nums,a.Name.length≤B
theorem b43 (F B:Nat)(d:u1)(hd:b2v B d)(hB:B≤2000000)(hF:B+20<F):a1N F d=some (a1Q d):=by
 have hm:10000000≤maxLen:=by decide
 obtain⟨b1,b2,b3,b4⟩:=hd
 unfold a1N a1Q
 rw [a3I (ok:=a2a) (lt:=a1F) (xs:=d.Fields) (fun i x hx=>?_) ?_ F (by omega)]
 ·cases a1c a2a a1F d.Fields with
  | false=>rfl
  | true=>
   simp only [if_true,a8,Sum.elim_inl]
   rw [a3I (ok:=a3u) (lt:=a33) (xs:=d.Nums) (fun i x hx=>?_) ?_ F (by omega)]
   ·cases a1c a3u a33 d.Nums with
    | false=>rfl
    | true=>
     simp only [if_true,a8,Sum.elim_inl,n8]
     rw [inS,a8]
     cases (decide (1≤d.Id)&&decide (d.Id≤9999)) with
     | false=>rfl
     | true=>
      rw [j6,inS,a8,b8 (show (0:Int)≤(d.Fields.length:Int) by omega),n8]
      cases decide ((d.Fields.length:Int)≤3)<;>rfl
   ·rw [c6 (by omega)];rfl
   ·have hi:=(g8.1 hx).1
    have hb:=b4 x (m8 hx)
    rw [b8 (by omega),j6,l8,hx,a8,a4S F _ (by omega) (by omega),a8,u4 (by omega)]
    unfold a3u a33
    cases A1 x.Name with
    | false=>rfl
    | true=>
     rw [n5,i9,a8,inS,a8]
     cases (decide (0≤x.Num)&&decide (x.Num≤999999999)) with
     | false=>rfl
     | true=>
      by_cases h0:i=0
      ·subst h0;rfl
      ·have ht:=a27 d.Nums[i-1].Name x.Name
       rw [n5,i9,b8 (show (0:Int)<(i:Int) by omega),j6,a8,Z7 (by omega) (by omega),l8,i6 (show i-1<d.Nums.length by omega),a8,c6 h0,←ht]
       simp only [Option.elim_some,Bool.false_or]
       cases y7 d.Nums[i-1].Name x.Name<;>rfl
 ·rw [c6 (by omega)];rfl
 ·have hi:=(g8.1 hx).1
  have hb:=b3 x (m8 hx)
  rw [b8 (by omega),j6,l8,hx,a8,a4S F _ (by omega) (by omega),a8,u4 (by omega)]
  unfold a2a a1F
  cases A1 x.Name with
  | false=>rfl
  | true=>
   rw [n5,i9,a96 F _ (by omega) (by omega),a8]
   cases O9 x.Text with
   | false=>rfl
   | true=>
    by_cases h0:i=0
    ·subst h0;rfl
    ·have ht:=a27 d.Fields[i-1].Name x.Name
     rw [n5,i9,b8 (show (0:Int)<(i:Int) by omega),j6,Z7 (by omega) (by omega),l8,i6 (show i-1<d.Fields.length by omega),a8,c6 h0,←ht]
     simp only [Option.elim_some,Bool.false_or]
     cases y7 d.Fields[i-1].Name x.Name<;>rfl
def a6Z (a b:u1):Bool:=decide (a.Id<b.Id)
def T3 (ds:List u1):Bool:=a1c a1Q a6Z ds&&decide ((ds.length:Int)≤16)
theorem a9K (F:Nat)(ds:List u1)(hl:ds.length<9000000000000000000):W2 F ds=some (T3 ds):=by
 unfold W2 T3
 rw [a3g (ok:=a1Q) (lt:=a6Z) (xs:=ds) (fun i x hx=>?_)]
 ·cases a1c a1Q a6Z ds<;>rfl
 ·have hi:=(g8.1 hx).1
  rw [l8,hx,a8,a8n,a8]
  unfold a6Z
  cases a1Q x with
  | false=>rfl
  | true=>
   by_cases h0:i=0
   ·subst h0;rfl
   ·rw [n5,i9,b8 (show (0:Int)<(i:Int) by omega),j6,Z7 (by omega) (by omega),l8,i6 (show i-1<ds.length by omega),a8,c6 h0]
    simp only [Option.elim_some,Bool.false_or]
    rw [a8g ds[i-1].Id x.Id]
    cases decide (x.Id≤ds[i-1].Id)<;>rfl
structure X5 (ds:List u1):Prop where
 few:ds.length≤100
 doc: ∀d∈ds,a3Y d
theorem b23 (F B:Nat)(ds:List u1)(hl:ds.length≤B)(hd: ∀d∈ds,b2v B d)(hB:B≤2000000)(hF:B+20<F):a0B F ds=some (T3 ds):=by
 unfold a0B T3
 rw [a3I (ok:=a1Q) (lt:=a6Z) (xs:=ds) (fun i x hx=>?_) ?_ F (by omega)]
 ·cases a1c a1Q a6Z ds<;>rfl
 ·rw [c6 (by omega)];rfl
 ·have hi:=(g8.1 hx).1
  rw [b8 (by omega),j6,l8,hx,a8,b43 F B x (hd x (m8 hx)) hB hF,a8,u4 (by omega)]
  unfold a6Z
  cases a1Q x with
  | false=>rfl
  | true=>
   by_cases h0:i=0
   ·subst h0;rfl
   ·rw [n5,i9,b8 (show (0:Int)<(i:Int) by omega),j6,a8,Z7 (by omega) (by omega),l8,i6 (show i-1<ds.length by omega),a8,c6 h0]
    simp only [Option.elim_some,Bool.false_or,a8]
    rw [a8g ds[i-1].Id x.Id]
    cases decide (x.Id≤ds[i-1].Id)<;>rfl
theorem a1S {ds:List u1}(h:T3 ds=true):ds.length≤16∧(∀d∈ds,1≤d.Id∧d.Id≤9999)∧ds.Pairwise fun a b=>a.Id<b.Id:=by
 unfold T3 at h
 rw [l5,decide_eq_true_iff] at h
 obtain⟨h1,h2⟩:=a2u h.1
 refine⟨by omega,fun d hd=>?_,?_⟩
 ·have:=h1 d hd
  unfold a1Q at this
  simp only [l5,decide_eq_true_iff] at this
  exact this.2.1
 ·have gen: ∀l:List u1,(∀i,(hi:i+1<l.length)→l[i].Id<l[i+1].Id)→l.Pairwise fun a b=>a.Id<b.Id:=by
   intro l
   induction l with
   | nil=>intro _;exact List.Pairwise.nil
   | cons a l ih=>
    intro hl
    have ih':=ih (fun i hi=>by have:=hl (i+1) (by simp only [l9];omega);simpa using this)
    refine List.pairwise_cons.2 ⟨fun c hc=>?_,ih'⟩
    cases l with
    | nil=>cases hc
    | cons b l=>
     have hab:a.Id<b.Id:=hl 0 (by simp)
     rcases List.mem_cons.1 hc with rfl | hc
     ·exact hab
     ·have:=(List.pairwise_cons.1 ih').1 c hc;omega
  refine gen ds fun i hi=>?_
  have:=h2 i hi
  unfold a6Z at this
  exact of_decide_eq_true this
theorem a8m (F:Nat)(d:u1)(h1:d.Fields.length≤1000000)(h2:d.Nums.length≤1000000):V2 F d=some d:=by
 unfold V2
 rw [F5 (by simp only [List.length_nil];omega),a8,F5 (by simp only [List.length_nil];omega)]
 rfl
theorem b22 (F:Nat)(d:u1)(h1:d.Fields.length≤1000000)(h2:d.Nums.length≤1000000):a0e F d=some d:=a8m F d h1 h2
end Go.Fk
