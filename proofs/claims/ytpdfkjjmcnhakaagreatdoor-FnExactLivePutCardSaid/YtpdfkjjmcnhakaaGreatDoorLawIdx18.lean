/-
  The reference's look at an index, by what it asks of documents alone. Of no program.
-/
import Derived.Test.YtpdfkjjmcnhakaaGreatDoorLawIdxs
set_option linter.unusedVariables false
namespace Go.Fk
open Go
def hasR (s:GSeg)(id:Int):Bool:= !(((s.Docs.find? fun d=>d.Id==id).getD ⟨0,[],[]⟩).Id==0)
def liveR (c:GConf)(l:GLive):Bool:=(segOk c l.Seg&&(upIS l.Dead&& !decide ((l.Seg.Docs.length:Int)≤(l.Dead.length:Int))))&&l.Dead.all (hasR l.Seg)
theorem has_same {s:GSeg}(h:docsS s.Docs=true)(id:Int):hasR s id=hasDoc s id:=by
 unfold hasR hasDoc
 rw [any_find]
 cases e:s.Docs.find? fun d=>d.Id==id with
 | none=>rfl
 | some d=>
  have hm:=List.mem_of_find?_eq_some e
  have:=(docs_ids h).2.1 d hm
  rw [Option.getD_some,beq_eq_false_iff_ne.2 (by omega)];rfl
theorem live_same (c:GConf)(l:GLive):liveR c l=liveS c l:=by
 unfold liveR liveS
 cases hs:segOk c l.Seg with
 | false=>rfl
 | true=>
  have hd:=(seg_is hs).2.1
  cases hu:upIS l.Dead with
  | false=>rfl
  | true=>
   have e:l.Dead.all (hasR l.Seg)=l.Dead.all (hasDoc l.Seg):=by
    congr 1
    funext id;exact has_same hd id
   rw [e]
   cases ha:l.Dead.all (hasDoc l.Seg) with
   | false=>rw [Bool.and_false];rfl
   | true=>
    have:=alive_count hd hu ha
    rw [Bool.true_and,Bool.true_and,Bool.and_true,Bool.true_and,Bool.true_and,←dec_le]
    exact decide_eq_decide.2 (by omega)
def IndexMid (x:GIndex):Prop:=ConfFit 1048576 x.Conf∧x.Segs.length≤1048576∧∀l∈x.Segs,(l.Seg.Docs.length≤1048576∧∀d∈l.Seg.Docs,DocBig 1048576 d)∧l.Dead.length≤1048576
theorem spec_18OkD (F:Nat)(x:GIndex)(hx:IndexMid x)(hF:5000000<F):M.spec_l18Ok F x=some (indexS x):=by
 obtain⟨hc,hsl,hl⟩:=hx
 unfold M.spec_l18Ok indexS
 rw [all_while0 (liveR x.Conf) (xs:=x.Segs) F (by omega) (fun i l hx=>?_) ?_]
 ·rw [show (liveR x.Conf)=liveS x.Conf from funext fun l=>live_same x.Conf l]
  cases ha:x.Segs.all (liveS x.Conf) with
  | false=>cases confS x.Conf<;>cases decide ((x.Segs.length:Int)≤5)<;>rfl
  | true=>
   have hall:=List.all_eq_true.1 ha
   have h16: ∀l∈x.Segs,l.Seg.Docs.length≤16:=fun l hl=>(live_docs (hall l hl)).2
   simp only [if_true,Option.bind_some,Sum.elim_inl]
   rw [spec_conf F 1048576 x.Conf hc (by omega) (by omega),Option.bind_some]
   cases confS x.Conf with
   | false=>rfl
   | true=>
    rw [cond_true]
    by_cases h5:(x.Segs.length:Int)≤5
    ·have hlen:=all_le h16
     rw [decide_eq_true h5,cond_true,spec_docs18 F x (by omega) (fun l hm=>?_) (by omega),Option.bind_some,spec_docsB F 1048576 _ (by rw [insAll_len];omega) (fun d hd=>?_) (by omega) (by omega),docs_ins]
     ·rfl
     ·obtain⟨l,hm,hd⟩:=List.mem_flatMap.1 ((insAll_perm _).mem_iff.1 hd)
      exact(hl l hm).1.2 d (alive_sub l d hd)
     ·have h1:=h16 l hm
      have h2:=hall l hm
      unfold liveS at h2
      simp only [Bool.and_eq_true] at h2
      have hu:=h2.1.2
      unfold upIS at hu
      rw [Bool.and_eq_true,decide_eq_true_iff] at hu
      refine⟨by omega,by omega,fun d hd=>?_⟩
      have:=doc_fit ((docs_all (live_docs (hall l hm)).1).2 d hd)
      exact⟨by have:=this.fields;omega,by have:=this.nums;omega⟩
    ·rw [decide_eq_false h5];rfl
 ·rw [decide_eq_false (by omega)];rfl
 ·have hi:=(List.getElem?_eq_some_iff.1 hx).1
  have hb:=hl l (List.mem_of_getElem? hx)
  rw [decide_eq_true (by omega),cond_true,getI_nat',hx,Option.bind_some,spec_okB F 1048576 x.Conf l.Seg hb.1.1 hb.1.2 hc (by omega) (by omega),Option.bind_some]
  unfold liveR
  cases segOk x.Conf l.Seg with
  | false=>rfl
  | true=>
   rw [Bool.not_true,cond_false,spec_upI F l.Dead (by have:=hb.2;omega) (by have:=hb.2;omega),Option.bind_some]
   cases upIS l.Dead with
   | false=>rfl
   | true=>
    rw [Bool.not_true,cond_false,Option.bind_some]
    cases decide ((l.Seg.Docs.length:Int)≤(l.Dead.length:Int)) with
    | true=>rfl
    | false=>
     have hdl:=hb.2
     have hsd:=hb.1.1
     rw [cond_false,all_while0 (hasR l.Seg) (xs:=l.Dead) F (by omega) (fun j id hid=>?_) ?_]
     ·cases l.Dead.all (hasR l.Seg) with
      | false=>rfl
      | true=>
       simp only [if_true,Option.bind_some,Sum.elim_inl,Bool.not_false,Bool.and_true]
       rw [w64_succ' (by omega)]
     ·rw [decide_eq_false (by omega)];rfl
     ·have hj:=(List.getElem?_eq_some_iff.1 hid).1
      rw [decide_eq_true (by omega),cond_true,getI_nat',hid,Option.bind_some,spec_docI F l.Seg id (by omega) (by omega),Option.bind_some,w64_succ' (by omega)]
      unfold hasR
      cases ((l.Seg.Docs.find? fun d=>d.Id==id).getD ⟨0,[],[]⟩).Id==0<;>rfl
end Go.Fk
