/-
  The program's and the reference's tests of a word say the same. Of no program.
-/
import Derived.Test.YtpdfkjjmcnhakaaGreatDoorLawLA
import Derived.Test.YtpdfkjjmcnhakaaGreatDoorModel
namespace Go.Fk
open Go
def wordB (b:UInt8):Bool:=(decide ((97:UInt8)≤b)&&decide (b≤(122:UInt8)))||(decide ((48:UInt8)≤b)&&decide (b≤(57:UInt8)))
def wordS (s:Str):Bool:=s.all wordB&&(decide (1≤s.length)&&decide (s.length≤12))
theorem byte_all {Q:UInt8→Prop}(h: ∀n,n<256→Q (UInt8.ofNat n))(b:UInt8):Q b:=by
 have:=h b.toNat b.toNat_lt
 rwa [UInt8.ofNat_toNat] at this
theorem impl_byte (F:Nat)(b:UInt8):M.impl_wordByte F b=some (wordB b):=by
 unfold M.impl_wordByte wordB
 cases decide ((97:UInt8)≤b)<;>cases decide (b≤(122:UInt8))<;>cases decide ((48:UInt8)≤b)<;>cases decide (b≤(57:UInt8))<;>rfl
def foldB (b:UInt8):UInt8:=if (65:UInt8)≤b∧b≤(90:UInt8) then b+32 else if wordB b then b else 0
theorem spec_fold (F:Nat)(b:UInt8):M.spec_l1Fold F b=some (foldB b):=by
 unfold M.spec_l1Fold foldB wordB
 by_cases h1:(65:UInt8)≤b<;>by_cases h2:b≤(90:UInt8)<;>by_cases h3:(97:UInt8)≤b<;>by_cases h4:b≤(122:UInt8)<;>by_cases h5:(48:UInt8)≤b<;>by_cases h6:b≤(57:UInt8)<;>simp [h1,h2,h3,h4,h5,h6]
theorem fold_word (b:UInt8):((!(foldB b==b))||(b==0))= !wordB b:=
 byte_all (Q:=fun b=>((!(foldB b==b))||(b==0))= !wordB b) (by decide +kernel) b
theorem within_len (F:Nat)(n:Nat):M.impl_within F (n:Int) 1 12=some (decide (1≤n)&&decide (n≤12)):=by
 unfold M.impl_within
 by_cases h:1≤n
 ·rw [decide_eq_true (show (1:Int)≤n by omega),decide_eq_true h,cond_true]
  congr 1
  by_cases h2:n≤12
  ·rw [decide_eq_true h2,decide_eq_true (by omega)];rfl
  ·rw [decide_eq_false h2,decide_eq_false (by omega)];rfl
 ·rw [decide_eq_false (show ¬(1:Int)≤n by omega),decide_eq_false h];rfl
theorem in_len (F:Nat)(n:Nat):M.spec_l1In F (n:Int) 1 12=some (decide (1≤n)&&decide (n≤12)):=within_len F n
theorem impl_word (F:Nat)(s:Str):M.impl_WordOk F s=some (wordS s):=by
 unfold M.impl_WordOk wordS
 rw [all_from (p:=wordB) (xs:=s) (fun i x hx=>?_) s.length 0 (by omega),List.drop_zero]
 ·cases s.all wordB
  ·rfl
  ·show (M.impl_within F (s.length:Int) 1 12).bind _=_
   rw [within_len];rfl
 ·rw [getI_nat',hx,Option.bind_some,impl_byte,Option.bind_some]
  cases wordB x<;>rfl
theorem spec_word (F:Nat)(s:Str)(hF:s.length<F)(hs:s.length≤maxLen):M.spec_l1WordOk F s=some (wordS s):=by
 unfold M.spec_l1WordOk wordS
 have hm:maxLen≤9223372036854775807:=by decide
 rw [show (0:Int)=((0:Nat):Int) from rfl,all_while (p:=wordB) (xs:=s) (fun i x hx=>?_) ?_ s.length 0 F (by omega) hF,List.drop_zero]
 ·cases s.all wordB
  ·rfl
  ·show (M.spec_l1In F (s.length:Int) 1 12).bind _=_
   rw [in_len];rfl
 ·rw [decide_eq_false (by omega)];rfl
 ·have hi:=(List.getElem?_eq_some_iff.1 hx).1
  have hw:=fold_word x
  rw [decide_eq_true (by omega),cond_true,getI_nat',hx,Option.bind_some,spec_fold,Option.bind_some,Option.bind_some,w64_succ' (by omega)]
  simp only [Option.bind_some]
  generalize (x==0)=q at hw ⊢
  generalize (foldB x==x)=r at hw ⊢
  generalize wordB x=b at hw ⊢
  cases q<;>cases r<;>cases b<;>first | rfl | (exact absurd hw (by decide))
end Go.Fk
