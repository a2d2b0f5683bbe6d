/-
  The program's and the reference's tests of documents say the same. Of no program.
-/
import Derived.Test.YtpdfkjjmcnhakaaGreatDoorLawKeep
import Derived.Test.YtpdfkjjmcnhakaaGreatDoorLawWord
namespace Go.Fk
open Go
def textB (b:UInt8):Bool:= !(decide (b<32)||decide (126<b))
def textS (s:Str):Bool:=s.all textB&&decide ((s.length:Int)≤160)
theorem impl_text (F:Nat)(s:Str):M.impl_TextOk F s=some (textS s):=by
 unfold M.impl_TextOk textS
 rw [all_from (p:=textB) (xs:=s) (fun i x hx=>?_) s.length 0 (by omega),List.drop_zero]
 ·cases s.all textB<;>rfl
 ·rw [getI_nat',hx,Option.bind_some]
  unfold textB
  cases decide (x<(32:UInt8))
  ·rw [cond_false,Option.bind_some,Option.bind_some]
   cases decide ((126:UInt8)<x)<;>rfl
  ·rfl
theorem spec_text (F:Nat)(s:Str)(hF:s.length<F)(hl:s.length≤2000000):M.spec_l1Text F s=some (textS s):=by
 unfold M.spec_l1Text textS
 have key:=fun f h h0=>all_while (p:=textB) (xs:=s) (f:=f) h h0 s.length 0 F (by omega) hF
 rw [show (0:Int)=((0:Nat):Int) from rfl,key _ (fun i x hx=>?_) ?_,List.drop_zero]
 ·cases s.all textB<;>rfl
 ·rw [decide_eq_false (by omega)];rfl
 ·have hi:=(List.getElem?_eq_some_iff.1 hx).1
  rw [decide_eq_true (by omega),cond_true,getI_nat',hx,Option.bind_some,w64_succ' (by omega)]
  unfold textB
  cases decide (x<(32:UInt8))
  ·rw [cond_false,Option.bind_some,Option.bind_some]
   cases decide ((126:UInt8)<x)<;>rfl
  ·rfl
def fieldOk (f:GField):Bool:=wordS f.Name&&textS f.Text
def fieldLt (f g:GField):Bool:=strLess f.Name g.Name
def attrOk (a:GAttr):Bool:=wordS a.Name&&(decide (0≤a.Num)&&decide (a.Num≤999999999))
def attrLt (f g:GAttr):Bool:=strLess f.Name g.Name
def docS (d:GDoc):Bool:=(pairS fieldOk fieldLt d.Fields&&pairS attrOk attrLt d.Nums)&&((decide (1≤d.Id)&&decide (d.Id≤9999))&&(decide ((d.Fields.length:Int)≤3)&&decide ((d.Nums.length:Int)≤3)))
theorem dec_le (a b:Int):decide (a<b)= !decide (b≤a):=by
 by_cases h:a<b
 ·rw [decide_eq_true h,decide_eq_false (by omega)];rfl
 ·rw [decide_eq_false h,decide_eq_true (by omega)];rfl
theorem impl_doc (F:Nat)(d:GDoc):M.impl_DocOk F d=some (docS d):=by
 unfold M.impl_DocOk docS
 rw [withinS,Option.bind_some]
 cases hid:(decide (1≤d.Id)&&decide (d.Id≤9999)) with
 | false=>rw [Bool.false_and,Bool.and_false];rfl
 | true=>
  rw [Bool.not_true,cond_false,dec_le 3 (d.Fields.length:Int),dec_le 3 (d.Nums.length:Int)]
  by_cases hf:(d.Fields.length:Int)≤3
  ·by_cases hn:(d.Nums.length:Int)≤3
   ·rw [decide_eq_true hf,decide_eq_true hn]
    simp only [Bool.not_true,cond_false,Option.bind_some]
    rw [pair_from (ok:=fieldOk) (lt:=fieldLt) (xs:=d.Fields) (fun i x hx=>?_)]
    ·cases pairS fieldOk fieldLt d.Fields with
     | false=>rfl
     | true=>
      simp only [if_true,Option.bind_some,Sum.elim_inl]
      rw [pair_from (ok:=attrOk) (lt:=attrLt) (xs:=d.Nums) (fun i x hx=>?_)]
      ·cases pairS attrOk attrLt d.Nums<;>rfl
      ·have hi:=(List.getElem?_eq_some_iff.1 hx).1
       rw [getI_nat',hx,Option.bind_some,impl_word,Option.bind_some]
       unfold attrOk attrLt
       cases wordS x.Name with
       | false=>rfl
       | true=>
        rw [Bool.not_true,cond_false,withinS,Option.bind_some]
        cases (decide (0≤x.Num)&&decide (x.Num≤999999999)) with
        | false=>rfl
        | true=>
         by_cases h0:i=0
         ·subst h0;rfl
         ·rw [Bool.not_true,cond_false,decide_eq_true (show (0:Int)<(i:Int) by omega),cond_true,w64_pred (by omega) (by omega),getI_nat',List.getElem?_eq_getElem (show i-1<d.Nums.length by omega),Option.bind_some,decide_eq_false h0]
          simp only [Option.elim_some,Bool.false_or]
          cases strLess d.Nums[i-1].Name x.Name<;>rfl
    ·have hi:=(List.getElem?_eq_some_iff.1 hx).1
     rw [getI_nat',hx,Option.bind_some,impl_word,Option.bind_some]
     unfold fieldOk fieldLt
     cases wordS x.Name with
     | false=>rfl
     | true=>
      rw [Bool.not_true,cond_false,impl_text,Option.bind_some]
      cases textS x.Text with
      | false=>rfl
      | true=>
       by_cases h0:i=0
       ·subst h0;rfl
       ·rw [Bool.not_true,cond_false,decide_eq_true (show (0:Int)<(i:Int) by omega),cond_true,w64_pred (by omega) (by omega),getI_nat',List.getElem?_eq_getElem (show i-1<d.Fields.length by omega),Option.bind_some,decide_eq_false h0]
        simp only [Option.elim_some,Bool.false_or]
        cases strLess d.Fields[i-1].Name x.Name<;>rfl
   ·rw [decide_eq_true hf,decide_eq_false hn,Bool.and_false,Bool.and_false,Bool.and_false];rfl
  ·rw [decide_eq_false hf,Bool.false_and,Bool.and_false,Bool.and_false];rfl
structure DocFit (d:GDoc):Prop where
 fields:d.Fields.length≤100
 nums:d.Nums.length≤100
 field: ∀f∈d.Fields,f.Name.length≤1000∧f.Text.length≤1000
 num: ∀a∈d.Nums,a.Name.length≤1000
structure DocBig (B:Nat)(d:GDoc):Prop where
 fields:d.Fields.length≤B
 nums:d.Nums.length≤B
 field: ∀f∈d.Fields,f.Name.length≤B∧f.Text.length≤B
 num: ∀a∈d.Nums,a.Name.length≤B
theorem spec_docB (F B:Nat)(d:GDoc)(hd:DocBig B d)(hB:B≤2000000)(hF:B+20<F):M.spec_l6Ok F d=some (docS d):=by
 have hm:10000000≤maxLen:=by decide
 obtain⟨b1,b2,b3,b4⟩:=hd
 unfold M.spec_l6Ok docS
 rw [pair_while (ok:=fieldOk) (lt:=fieldLt) (xs:=d.Fields) (fun i x hx=>?_) ?_ F (by omega)]
 ·cases pairS fieldOk fieldLt d.Fields with
  | false=>rfl
  | true=>
   simp only [if_true,Option.bind_some,Sum.elim_inl]
   rw [pair_while (ok:=attrOk) (lt:=attrLt) (xs:=d.Nums) (fun i x hx=>?_) ?_ F (by omega)]
   ·cases pairS attrOk attrLt d.Nums with
    | false=>rfl
    | true=>
     simp only [if_true,Option.bind_some,Sum.elim_inl,Bool.true_and]
     rw [inS,Option.bind_some]
     cases (decide (1≤d.Id)&&decide (d.Id≤9999)) with
     | false=>rfl
     | true=>
      rw [cond_true,inS,Option.bind_some,decide_eq_true (show (0:Int)≤(d.Fields.length:Int) by omega),Bool.true_and]
      cases decide ((d.Fields.length:Int)≤3)<;>rfl
   ·rw [decide_eq_false (by omega)];rfl
   ·have hi:=(List.getElem?_eq_some_iff.1 hx).1
    have hb:=b4 x (List.mem_of_getElem? hx)
    rw [decide_eq_true (by omega),cond_true,getI_nat',hx,Option.bind_some,spec_word F _ (by omega) (by omega),Option.bind_some,w64_succ' (by omega)]
    unfold attrOk attrLt
    cases wordS x.Name with
    | false=>rfl
    | true=>
     rw [Bool.not_true,cond_false,Option.bind_some,inS,Option.bind_some]
     cases (decide (0≤x.Num)&&decide (x.Num≤999999999)) with
     | false=>rfl
     | true=>
      by_cases h0:i=0
      ·subst h0;rfl
      ·have ht:=lessTotal d.Nums[i-1].Name x.Name
       rw [Bool.not_true,cond_false,decide_eq_true (show (0:Int)<(i:Int) by omega),cond_true,Option.bind_some,w64_pred (by omega) (by omega),getI_nat',List.getElem?_eq_getElem (show i-1<d.Nums.length by omega),Option.bind_some,decide_eq_false h0,←ht]
       simp only [Option.elim_some,Bool.false_or]
       cases strLess d.Nums[i-1].Name x.Name<;>rfl
 ·rw [decide_eq_false (by omega)];rfl
 ·have hi:=(List.getElem?_eq_some_iff.1 hx).1
  have hb:=b3 x (List.mem_of_getElem? hx)
  rw [decide_eq_true (by omega),cond_true,getI_nat',hx,Option.bind_some,spec_word F _ (by omega) (by omega),Option.bind_some,w64_succ' (by omega)]
  unfold fieldOk fieldLt
  cases wordS x.Name with
  | false=>rfl
  | true=>
   rw [Bool.not_true,cond_false,spec_text F _ (by omega) (by omega),Option.bind_some]
   cases textS x.Text with
   | false=>rfl
   | true=>
    by_cases h0:i=0
    ·subst h0;rfl
    ·have ht:=lessTotal d.Fields[i-1].Name x.Name
     rw [Bool.not_true,cond_false,decide_eq_true (show (0:Int)<(i:Int) by omega),cond_true,w64_pred (by omega) (by omega),getI_nat',List.getElem?_eq_getElem (show i-1<d.Fields.length by omega),Option.bind_some,decide_eq_false h0,←ht]
     simp only [Option.elim_some,Bool.false_or]
     cases strLess d.Fields[i-1].Name x.Name<;>rfl
def docLt (a b:GDoc):Bool:=decide (a.Id<b.Id)
def docsS (ds:List GDoc):Bool:=pairS docS docLt ds&&decide ((ds.length:Int)≤16)
theorem impl_docs (F:Nat)(ds:List GDoc)(hl:ds.length<9000000000000000000):M.impl_DocsOk F ds=some (docsS ds):=by
 unfold M.impl_DocsOk docsS
 rw [pair_from (ok:=docS) (lt:=docLt) (xs:=ds) (fun i x hx=>?_)]
 ·cases pairS docS docLt ds<;>rfl
 ·have hi:=(List.getElem?_eq_some_iff.1 hx).1
  rw [getI_nat',hx,Option.bind_some,impl_doc,Option.bind_some]
  unfold docLt
  cases docS x with
  | false=>rfl
  | true=>
   by_cases h0:i=0
   ·subst h0;rfl
   ·rw [Bool.not_true,cond_false,decide_eq_true (show (0:Int)<(i:Int) by omega),cond_true,w64_pred (by omega) (by omega),getI_nat',List.getElem?_eq_getElem (show i-1<ds.length by omega),Option.bind_some,decide_eq_false h0]
    simp only [Option.elim_some,Bool.false_or]
    rw [dec_le ds[i-1].Id x.Id]
    cases decide (x.Id≤ds[i-1].Id)<;>rfl
structure DocsFit (ds:List GDoc):Prop where
 few:ds.length≤100
 doc: ∀d∈ds,DocFit d
theorem spec_docsB (F B:Nat)(ds:List GDoc)(hl:ds.length≤B)(hd: ∀d∈ds,DocBig B d)(hB:B≤2000000)(hF:B+20<F):M.spec_l6Docs F ds=some (docsS ds):=by
 unfold M.spec_l6Docs docsS
 rw [pair_while (ok:=docS) (lt:=docLt) (xs:=ds) (fun i x hx=>?_) ?_ F (by omega)]
 ·cases pairS docS docLt ds<;>rfl
 ·rw [decide_eq_false (by omega)];rfl
 ·have hi:=(List.getElem?_eq_some_iff.1 hx).1
  rw [decide_eq_true (by omega),cond_true,getI_nat',hx,Option.bind_some,spec_docB F B x (hd x (List.mem_of_getElem? hx)) hB hF,Option.bind_some,w64_succ' (by omega)]
  unfold docLt
  cases docS x with
  | false=>rfl
  | true=>
   by_cases h0:i=0
   ·subst h0;rfl
   ·rw [Bool.not_true,cond_false,decide_eq_true (show (0:Int)<(i:Int) by omega),cond_true,Option.bind_some,w64_pred (by omega) (by omega),getI_nat',List.getElem?_eq_getElem (show i-1<ds.length by omega),Option.bind_some,decide_eq_false h0]
    simp only [Option.elim_some,Bool.false_or,Option.bind_some]
    rw [dec_le ds[i-1].Id x.Id]
    cases decide (x.Id≤ds[i-1].Id)<;>rfl
theorem docs_ids {ds:List GDoc}(h:docsS ds=true):ds.length≤16∧(∀d∈ds,1≤d.Id∧d.Id≤9999)∧ds.Pairwise fun a b=>a.Id<b.Id:=by
 unfold docsS at h
 rw [Bool.and_eq_true,decide_eq_true_iff] at h
 obtain⟨h1,h2⟩:=pairS_ok h.1
 refine⟨by omega,fun d hd=>?_,?_⟩
 ·have:=h1 d hd
  unfold docS at this
  simp only [Bool.and_eq_true,decide_eq_true_iff] at this
  exact this.2.1
 ·have gen: ∀l:List GDoc,(∀i,(hi:i+1<l.length)→l[i].Id<l[i+1].Id)→l.Pairwise fun a b=>a.Id<b.Id:=by
   intro l
   induction l with
   | nil=>intro _;exact List.Pairwise.nil
   | cons a l ih=>
    intro hl
    have ih':=ih (fun i hi=>by have:=hl (i+1) (by simp only [List.length_cons];omega);simpa using this)
    refine List.pairwise_cons.2 ⟨fun c hc=>?_,ih'⟩
    cases l with
    | nil=>cases hc
    | cons b l=>
     have hab:a.Id<b.Id:=hl 0 (by simp)
     rcases List.mem_cons.1 hc with rfl | hc
     ·exact hab
     ·have:=(List.pairwise_cons.1 ih').1 c hc;omega
  refine gen ds fun i hi=>?_
  have:=h2 i hi
  unfold docLt at this
  exact of_decide_eq_true this
theorem impl_clone (F:Nat)(d:GDoc)(h1:d.Fields.length≤1000000)(h2:d.Nums.length≤1000000):M.impl_cloneDoc F d=some d:=by
 unfold M.impl_cloneDoc
 rw [catLok (by simp only [List.length_nil];omega),Option.bind_some,catLok (by simp only [List.length_nil];omega)]
 rfl
theorem spec_clone (F:Nat)(d:GDoc)(h1:d.Fields.length≤1000000)(h2:d.Nums.length≤1000000):M.spec_l7CopyDoc F d=some d:=impl_clone F d h1 h2
end Go.Fk
