/-
  Bounds, for all segments: the program's and the reference's are the plain ones. Of no program.
-/
import Derived.Test.YtfiahfncijjliaaGreatDoorLawSzA
import Derived.Test.YtfiahfncijjliaaGreatDoorLawBts
set_option linter.unusedVariables false
namespace Go.Fk
open Go
theorem spec_termOfX (F:Nat)(c:GConf)(w:Str)(hc:ConfFit 1048576 c)(hcs:confS c=true)(hw:wordS w=true)(hF:5000000<F):M.spec_TermOf F c w=some (termS c w):=by
 have hl:=word_le hw
 unfold M.spec_TermOf termS
 rw [spec_conf F 1048576 c hc (by omega) (by omega),Option.bind_some,hcs,Bool.not_true,cond_false,spec_word' F w 12 hl (by omega) (by omega),Option.bind_some,hw,Option.bind_some,Bool.not_true,cond_false,spec_terms F c w hcs (by omega) (by omega),Option.bind_some]
 simp only [Bool.and_self,if_true]
 cases ht:termsS c w with
 | nil=>rfl
 | cons x r=>
  rw [beq_eq_false_iff_ne.2 (by simp only [List.length_cons];omega),cond_false,show ((0:Int))=((0:Nat):Int) from rfl,getI_nat'];rfl
theorem spec_allWordsX (F:Nat)(words:List Str)(hl:words.length≤1048576)(hw: ∀w∈words,w.length≤1048576)(hF:3000000<F):M.spec_l11Words F words 4=some (words.all wordS&&(decide (1≤(words.length:Int))&&decide ((words.length:Int)≤4))):=by
 unfold M.spec_l11Words
 rw [all_while0 (xs:=words) wordS F (by omega) (fun i x hx=>?_) ?_]
 ·cases words.all wordS with
  | false=>rfl
  | true=>
   show Option.bind (M.spec_l1In F (words.length:Int) 1 4) _=_
   rw [inS];rfl
 ·rw [decide_eq_false (by omega)];rfl
 ·have hi:=(List.getElem?_eq_some_iff.1 hx).1
  have hxl:=hw x (List.mem_of_getElem? hx)
  rw [decide_eq_true (by omega),cond_true,getI_nat',hx,Option.bind_some,spec_word' F x 1048576 hxl (by omega) (by omega),Option.bind_some,w64_succ' (by omega)]
  cases wordS x<;>rfl
theorem btWordsX {c:GConf}{words:List Str}(ok:Bool)(hl:words.length≤1048576){f:Nat→Bool×List Str→Option (Bool×List Str)}
  (hf: ∀(i:Nat) w b acc,words[i]? =some w→acc.length≤1048576→f i (b,acc)=some (b&&wordS w,newT c acc w)):forE f words.length 0 (ok,([]:List Str))=some (ok&&words.all wordS,uniqT c words):=by
 obtain⟨r,hr,he⟩:=forE_run' (σ:=Bool×List Str) (f:=f) (fun i st=>st=(ok&&(words.take i).all wordS,(words.take i).foldl (newT c) [])) words.length (fun i st hi hst=>by
  subst hst
  have hlen:=uniq_len c (words.take i) []
  rw [List.length_take] at hlen
  simp only [List.length_nil,Nat.zero_add] at hlen
  refine⟨_,hf i _ _ _ (List.getElem?_eq_getElem hi) (by omega),?_⟩
  rw [List.take_succ_eq_append_getElem hi,List.all_append,List.foldl_append]
  simp [Bool.and_assoc]) words.length 0 (ok,[]) (by omega) (by simp)
 rw [hr,he,List.take_length];rfl
theorem impl_boundTopX (F:Nat)(c:GConf)(s:GSeg)(n:Str)(words:List Str)(most:Int)(hd:s.Docs.length≤1048576)(hc:c.Stops.length≤1048576)(hw:words.length≤1048576)(hF:1000000000<F):M.impl_BoundTop F c s n words most=some (boundTopS c s n words most):=by
 unfold M.impl_BoundTop boundTopS
 have hok:((Option.bind (M.impl_SegOk F c s) fun r38=>(cond r38 (Option.bind (M.impl_WordOk F n) fun r48=>(cond r48 (Option.bind (M.impl_within F (words.length:Int) (1:Int) (4:Int)) fun r58=>(cond r58 (Option.bind (M.impl_within F most (1:Int) (16:Int)) fun r68=>(some r68)) (some false))) (some false))) (some false))):Option Bool)=some (segOk c s&&(wordS n&&((decide (1≤(words.length:Int))&&decide ((words.length:Int)≤4))&&(decide (1≤most)&&decide (most≤16))))):=by
  rw [impl_ok F c s (by omega) (by omega) (by omega),Option.bind_some]
  cases segOk c s with
  | false=>rfl
  | true=>
   rw [cond_true,impl_word,Option.bind_some]
   cases wordS n with
   | false=>rfl
   | true=>
    rw [cond_true,withinS,Option.bind_some]
    cases (decide (1≤(words.length:Int))&&decide ((words.length:Int)≤4)) with
    | false=>rfl
    | true=>rw [cond_true,withinS];rfl
 rw [hok,Option.bind_some]
 generalize hb:(segOk c s&&(wordS n&&((decide (1≤(words.length:Int))&&decide ((words.length:Int)≤4))&&(decide (1≤most)&&decide (most≤16)))))=ok
 rw [btWordsX (c:=c) (words:=words) ok (by omega) (fun i w b acc hx hacc=>?_),Option.bind_some,Option.bind_some]
 ·dsimp only
  cases hall:ok&&words.all wordS with
  | false=>rfl
  | true=>
   rw [Bool.not_true,cond_false,if_pos rfl]
   rw [Bool.and_eq_true] at hall
   have hb2:=hall.1
   rw [←hb] at hb2
   simp only [Bool.and_eq_true,decide_eq_true_iff] at hb2
   obtain⟨ho,hwn,⟨hw1,hw2⟩,hm1,hm2⟩:=hb2
   obtain⟨k1,k2,k3⟩:=seg_is ho
   have hul:=uniq_len c words []
   have hul2:(uniqT c words).length≤4:=by
    unfold uniqT
    simp only [List.length_nil,Nat.zero_add] at hul;omega
   generalize hts:uniqT c words=ts at *
   obtain⟨m,rfl⟩: ∃m:Nat,most=(m:Int):=⟨most.toNat,by omega⟩
   rw [Int.toNat_natCast]
   have hblocks:forE (fun (i227:Nat) (s223:(List (List GBlock)))=>(Option.bind (getI ts ((i227:Nat):Int)) fun x244=>(Option.bind (M.impl_scorer_bounds F (GScorer.mk c s) n x244) fun r254=>(Option.bind (catL 24 s223 ([r254]:List (List GBlock))) fun x274=>(some x274))))) ts.length 0 ([]:List (List GBlock))=some (ts.map fun t=>blk (psS c s n t)):=by
    rw [fm_forE (xs:=ts) (fun t=>[blk (psS c s n t)]) 1000 (fun i x acc hx hB=>?_) [] (by rw [map_flat];simp;omega),map_flat]
    ·rfl
    ·rw [getI_nat',hx,Option.bind_some,impl_bounds F c s n x ho hF,Option.bind_some,catLok (by rw [List.length_append] at hB;rw [List.length_singleton] at *;omega)];rfl
   rw [hblocks,Option.bind_some,Option.bind_some]
   rw [btLoop (c:=c) (s:=s) n ts (m:=m) k2 (by omega) (fun i d hits looks hx hi hid hto hlk=>?_),Option.bind_some,Option.bind_some]
   dsimp only
   rw [getI_nat',hx,Option.bind_some,impl_sums (c:=c) (s:=s) n ts d.Id ho (by omega) (fun k t a b hx=>by
    rw [getI_nat',hx,Option.bind_some,getI_nat',List.getElem?_map,hx,Option.map_some,Option.bind_some,impl_boundAt F _ _ (blk_up (ps_up ho n t)) (by have:=blk_short ho n t;omega) (by omega),Option.bind_some,impl_points F c s n t _ ho hF,Option.bind_some]),Option.bind_some,Option.bind_some]
   dsimp only
   rw [skip_ok _ hits m (by omega) hto.most (by omega),Option.bind_some]
   unfold fastStep
   dsimp only
   cases skipS (bndS c s n ts d.Id) hits m with
   | true=>rfl
   | false=>
    rw [cond_false,if_neg (by simp),w64_succ' (by omega)]
    by_cases hp:0<sumS c s n ts d.Id
    ·rw [decide_eq_true hp,cond_true,if_pos hp,impl_push F hits _ _ m hto (by omega) hid (by omega)];rfl
    ·rw [decide_eq_false hp,cond_false,if_neg hp]
 ·dsimp only
  rw [getI_nat',hx,Option.bind_some,impl_word,impl_termOf F c w (by omega) (by omega)]
  have e1:(cond b (Option.bind (some (wordS w)) fun r135=>some r135) (some false))=some (b&&wordS w):=by cases b<;>rfl
  rw [e1,Option.bind_some,Option.bind_some,contains_str]
  unfold newT
  cases hte:termS c w==[] with
  | true=>rfl
  | false=>
   simp only [Bool.not_false,cond_true,Option.bind_some,Bool.true_and]
   cases acc.any (· ==termS c w) with
   | true=>rfl
   | false=>
    simp only [Bool.not_false,cond_true,if_true]
    rw [catLok (by rw [List.length_singleton];omega)];rfl
theorem spec_boundTopX (F:Nat)(c:GConf)(s:GSeg)(n:Str)(words:List Str)(most:Int)(hc:ConfBig c)(hs:SegBig s)(hn:n.length≤1048576)(hw:words.length≤1048576)(hwl: ∀w∈words,w.length≤1048576)(hF:1000000000<F):M.spec_BoundTop F c s n words most=some (boundTopS c s n words most):=by
 unfold M.spec_BoundTop boundTopS
 have hok:((Option.bind (M.spec_l7Ok F c s) fun r38=>(cond (!r38) (some true) (Option.bind (M.spec_l1WordOk F n) fun r49=>(cond (!r49) (some true) (Option.bind (M.spec_l11Words F words (4:Int)) fun r60=>(cond (!r60) (some true) (Option.bind (M.spec_l1In F most (1:Int) (16:Int)) fun r71=>(some (!r71))))))))):Option Bool)=some (!((segOk c s&&(wordS n&&((decide (1≤(words.length:Int))&&decide ((words.length:Int)≤4))&&(decide (1≤most)&&decide (most≤16)))))&&words.all wordS)):=by
  rw [spec_okX F c s hc hs (by omega),Option.bind_some]
  cases segOk c s with
  | false=>rfl
  | true=>
   rw [Bool.not_true,cond_false,spec_word' F n 1048576 hn (by omega) (by omega),Option.bind_some]
   cases wordS n with
   | false=>rfl
   | true=>
    rw [Bool.not_true,cond_false,spec_allWordsX F words (by omega) hwl (by omega),Option.bind_some,inS,Option.bind_some]
    cases words.all wordS<;>cases (decide (1≤(words.length:Int))&&decide ((words.length:Int)≤4))<;>cases (decide (1≤most)&&decide (most≤16))<;>rfl
 rw [hok,Option.bind_some]
 cases hall:(segOk c s&&(wordS n&&((decide (1≤(words.length:Int))&&decide ((words.length:Int)≤4))&&(decide (1≤most)&&decide (most≤16)))))&&words.all wordS with
 | false=>rfl
 | true=>
  simp only [Bool.and_eq_true,decide_eq_true_iff] at hall
  obtain⟨⟨ho,hwn,⟨hw1,hw2⟩,hm1,hm2⟩,hwa⟩:=hall
  obtain⟨k1,k2,k3⟩:=seg_is ho
  rw [Bool.not_true,cond_false,if_pos rfl]
  rw [while_words (c:=c) (words:=words) (by omega) F (by omega) (fun i w acc hx hacc=>?_) (fun acc=>?_),Option.bind_some,Option.bind_some]
  ·have hul:=uniq_len c words []
   have hul2:(uniqT c words).length≤4:=by
    unfold uniqT
    simp only [List.length_nil,Nat.zero_add] at hul;omega
   obtain⟨m,rfl⟩: ∃m:Nat,most=(m:Int):=⟨most.toNat,by omega⟩
   rw [Int.toNat_natCast,spec_fast F c s n _ m ho (by omega) (by omega) hF];rfl
  ·have hi:=(List.getElem?_eq_some_iff.1 hx).1
   have hws:=List.all_eq_true.1 hwa w (List.mem_of_getElem? hx)
   dsimp only
   rw [decide_eq_true (by omega),cond_true,getI_nat',hx,Option.bind_some,spec_termOfX F c w hc.fit k1 hws (by omega),Option.bind_some,spec_has F acc _ (by omega) (by omega),w64_succ' (by omega)]
   unfold newT
   cases hte:termS c w==[] with
   | true=>rfl
   | false=>
    simp only [Bool.not_false,cond_true,Option.bind_some,Bool.true_and]
    cases acc.any (· ==termS c w) with
    | true=>rfl
    | false=>
     simp only [Bool.not_false,cond_true,if_true]
     rw [catLok (by rw [List.length_singleton];omega)];rfl
  ·dsimp only
   rw [decide_eq_false (by omega)];rfl
end Go.Fk
