/-
  A piece as a text: the program's and the reference's. Of no program.
-/
import Derived.Test.YtpdfkjjmcnhakaaGreatDoorLawDec
import Derived.Test.YtpdfkjjmcnhakaaGreatDoorLawIdx18
import Derived.Test.YtpdfkjjmcnhakaaGreatDoorLawGather
set_option linter.unusedVariables false
namespace Go.Fk
open Go
theorem catSk {a b:Str}(h:a.length+b.length≤1000000):catS a b=some (a++b):=by
 unfold catS
 exact if_pos (Nat.le_trans h (by decide))
def fieldT (f:GField):Str:=[102,105,101,108,100,32]++f.Name++[32]++f.Text++[10]
def numT (a:GAttr):Str:=[110,117,109,32]++a.Name++[32]++Lib.itoa a.Num++[10]
def docT (d:GDoc):Str:=[100,111,99,32]++Lib.itoa d.Id++[10]++d.Fields.flatMap fieldT++d.Nums.flatMap numT
def deadT (z:Int):Str:=[100,101,97,100,32]++Lib.itoa z++[10]
def liveT (l:GLive):Str:=l.Seg.Docs.flatMap docT++l.Dead.flatMap deadT
theorem dec_small {n:Int}(F:Nat)(h0:0≤n)(h1:n≤999999999)(hF:20<F):M.spec_l1Dec F n=some (Lib.itoa n)∧itoaO n=some (Lib.itoa n)∧(Lib.itoa n).length≤12:=by
 obtain⟨k,rfl⟩:=Int.eq_ofNat_of_zero_le h0
 have hten:(10:Nat) ^ 10=10000000000:=by decide
 obtain⟨e,hl⟩:=dec_ok 9 k F (by omega) (by omega) (by omega)
 refine⟨e,?_,by omega⟩
 unfold itoaO
 exact if_pos (Nat.le_trans hl (by decide))
structure DocP (d:GDoc):Prop where
 id:0≤d.Id∧d.Id≤9999
 fields:d.Fields.length≤3∧∀f∈d.Fields,f.Name.length≤12∧f.Text.length≤160
 nums:d.Nums.length≤3∧∀a∈d.Nums,a.Name.length≤12∧0≤a.Num∧a.Num≤999999999
theorem doc_p {d:GDoc}(h:docS d=true):DocP d:=by
 obtain⟨⟨h1,h2⟩,h3,h4⟩:=docS_parts h
 unfold docS at h
 simp only [Bool.and_eq_true,decide_eq_true_eq] at h
 refine⟨⟨by omega,by omega⟩,⟨h3,fun f hf=>?_⟩,h4,fun a ha=>?_⟩
 ·have:=doc_texts (d:=d) (by unfold docS;simp only [Bool.and_eq_true,decide_eq_true_eq];exact h) hf
  exact⟨word_le this.1,text_len this.2⟩
 ·have:=(pairS_ok h2).1 a ha
  unfold attrOk at this
  simp only [Bool.and_eq_true,decide_eq_true_eq] at this
  exact⟨word_le this.1,this.2⟩
theorem fieldT_len {f:GField}(h:f.Name.length≤12∧f.Text.length≤160):(fieldT f).length≤200:=by
 unfold fieldT
 simp only [List.length_append,List.length_cons,List.length_nil];omega
theorem numT_len {a:GAttr}(h:a.Name.length≤12∧0≤a.Num∧a.Num≤999999999):(numT a).length≤200:=by
 have:=(dec_small 21 h.2.1 h.2.2 (by omega)).2.2
 unfold numT
 simp only [List.length_append,List.length_cons,List.length_nil];omega
theorem docT_len {d:GDoc}(h:DocP d):(docT d).length≤2000∧(d.Fields.flatMap fieldT).length≤600∧(d.Nums.flatMap numT).length≤600:=by
 have h1:=(dec_small 21 h.id.1 (by have:=h.id.2;omega) (by omega)).2.2
 have h2:=flat_le (g:=fieldT) (m:=200) d.Fields fun f hf=>fieldT_len (h.fields.2 f hf)
 have h3:=flat_le (g:=numT) (m:=200) d.Nums fun f hf=>numT_len (h.nums.2 f hf)
 have h4:=h.fields.1
 have h5:=h.nums.1
 refine⟨?_,by omega,by omega⟩
 unfold docT
 simp only [List.length_append,List.length_cons,List.length_nil];omega
theorem impl_docPut (F:Nat)(d:GDoc)(h:docS d=true):M.impl_DocPut F d=some (docT d):=by
 have hp:=doc_p h
 obtain⟨hl1,hl2,hl3⟩:=docT_len hp
 have hd:=dec_small 21 hp.id.1 (by have:=hp.id.2;omega) (by omega)
 unfold M.impl_DocPut
 rw [impl_doc,h,Option.bind_some,Bool.not_true,cond_false,hd.2.1,Option.bind_some,catSk (by simp only [List.length_cons,List.length_nil];omega),Option.bind_some,catSk (by simp only [List.length_append,List.length_cons,List.length_nil];omega),Option.bind_some]
 rw [fm_forE (xs:=d.Fields) fieldT 5000 (fun i f acc hx hB=>?_) _ (by simp only [List.length_append,List.length_cons,List.length_nil];omega),Option.bind_some,Option.bind_some,fm_forE (xs:=d.Nums) numT 5000 (fun i a acc hx hB=>?_) _ (by simp only [List.length_append,List.length_cons,List.length_nil];omega)]
 ·rfl
 ·have hf:=hp.nums.2 a (List.mem_of_getElem? hx)
  have hn:=dec_small 21 hf.2.1 hf.2.2 (by omega)
  have hacc:acc.length≤5000:=by simp only [List.length_append] at hB;omega
  rw [getI_nat',hx,Option.bind_some,catSk (by simp only [List.length_cons,List.length_nil];omega),Option.bind_some,catSk (by simp only [List.length_append,List.length_cons,List.length_nil];omega),Option.bind_some,hn.2.1,Option.bind_some,catSk (by simp only [List.length_append,List.length_cons,List.length_nil];omega),Option.bind_some,catSk (by simp only [List.length_append,List.length_cons,List.length_nil];omega),Option.bind_some,catSk (by simp only [List.length_append,List.length_cons,List.length_nil];omega)]
  rfl
 ·have hf:=hp.fields.2 f (List.mem_of_getElem? hx)
  have hacc:acc.length≤5000:=by simp only [List.length_append] at hB;omega
  rw [getI_nat',hx,Option.bind_some,catSk (by simp only [List.length_cons,List.length_nil];omega),Option.bind_some,catSk (by simp only [List.length_append,List.length_cons,List.length_nil];omega),Option.bind_some,catSk (by simp only [List.length_append,List.length_cons,List.length_nil];omega),Option.bind_some,catSk (by simp only [List.length_append,List.length_cons,List.length_nil];omega),Option.bind_some,catSk (by simp only [List.length_append,List.length_cons,List.length_nil];omega)]
  rfl
theorem spec_docPut (F:Nat)(d:GDoc)(h:docS d=true)(hF:30<F):M.spec_l6Put F d=some (docT d):=by
 have hp:=doc_p h
 obtain⟨hl1,hl2,hl3⟩:=docT_len hp
 have hd:=dec_small F hp.id.1 (by have:=hp.id.2;omega) (by omega)
 have hfl:=hp.fields.1
 have hnl:=hp.nums.1
 unfold M.spec_l6Put
 rw [hd.1,Option.bind_some,catSk (by simp only [List.length_cons,List.length_nil];omega),Option.bind_some,catSk (by simp only [List.length_append,List.length_cons,List.length_nil];omega),Option.bind_some]
 rw [fm_while (xs:=d.Fields) fieldT 5000 F (by omega) (fun i f acc hx hB=>?_) (fun acc=>?_) _ (by simp only [List.length_append,List.length_cons,List.length_nil];omega),Option.bind_some,Option.bind_some,fm_while (xs:=d.Nums) numT 5000 F (by omega) (fun i a acc hx hB=>?_) (fun acc=>?_) _ (by simp only [List.length_append,List.length_cons,List.length_nil];omega)]
 ·rfl
 ·have hi:=(List.getElem?_eq_some_iff.1 hx).1
  have hf:=hp.nums.2 a (List.mem_of_getElem? hx)
  have hn:=dec_small F hf.2.1 hf.2.2 (by omega)
  have hacc:acc.length≤5000:=by simp only [List.length_append] at hB;omega
  dsimp only
  rw [decide_eq_true (by omega),cond_true,catSk (by simp only [List.length_cons,List.length_nil];omega),Option.bind_some,getI_nat',hx,Option.bind_some,catSk (by simp only [List.length_append,List.length_cons,List.length_nil];omega),Option.bind_some,catSk (by simp only [List.length_append,List.length_cons,List.length_nil];omega),Option.bind_some,Option.bind_some,hn.1,Option.bind_some,catSk (by simp only [List.length_append,List.length_cons,List.length_nil];omega),Option.bind_some,catSk (by simp only [List.length_append,List.length_cons,List.length_nil];omega),Option.bind_some,w64_succ' (by omega)]
  unfold numT
  simp only [List.append_assoc]
 ·dsimp only
  rw [decide_eq_false (by omega)];rfl
 ·have hi:=(List.getElem?_eq_some_iff.1 hx).1
  have hf:=hp.fields.2 f (List.mem_of_getElem? hx)
  have hacc:acc.length≤5000:=by simp only [List.length_append] at hB;omega
  dsimp only
  rw [decide_eq_true (by omega),cond_true,catSk (by simp only [List.length_cons,List.length_nil];omega),Option.bind_some,getI_nat',hx,Option.bind_some,catSk (by simp only [List.length_append,List.length_cons,List.length_nil];omega),Option.bind_some,catSk (by simp only [List.length_append,List.length_cons,List.length_nil];omega),Option.bind_some,Option.bind_some,catSk (by simp only [List.length_append,List.length_cons,List.length_nil];omega),Option.bind_some,catSk (by simp only [List.length_append,List.length_cons,List.length_nil];omega),Option.bind_some,w64_succ' (by omega)]
  unfold fieldT
  simp only [List.append_assoc]
 ·dsimp only
  rw [decide_eq_false (by omega)];rfl
end Go.Fk
