/-
  Each document is in one shard: in plain data. Of no program.
-/
import Derived.Test.YtpjefkdclnmlfaaLawDrawDocs
namespace Go.Fk
open Go
theorem rem_ok {a b:Int}(hb:b≠0):remI a b=some (a.tmod b):=by unfold remI;rw [if_neg hb]
theorem DocsFit.filter {ds:List GDoc}(h:DocsFit ds)(p:GDoc→Bool):DocsFit (ds.filter p):=
 ⟨by have:=List.length_filter_le p ds;have:=h.few;omega,fun d hd=>h.doc d (List.mem_filter.1 hd).1⟩
def shardP (many which:Int)(d:GDoc):Bool:=d.Id.tmod many==which
def shardOkS (many which:Int):Bool:=(decide (1≤many)&&decide (many≤4))&&(decide (0≤which)&&decide (which≤many-1))
def shardS (ds:List GDoc)(many which:Int):List GDoc:=if docsS ds&&shardOkS many which then ds.filter (shardP many which) else []
theorem impl_shard (F:Nat)(ds:List GDoc)(many which:Int)(hd:DocsFit ds)(hm: -1000≤many∧many≤1000):M.impl_ShardOf F ds many which=some (shardS ds many which):=by
 have hl:=hd.few
 unfold M.impl_ShardOf shardS shardOkS
 rw [impl_docs F ds (by omega),Option.bind_some]
 cases hds:docsS ds with
 | false=>rfl
 | true=>
  unfold M.impl_shardOk
  rw [Bool.not_true,cond_false,withinS,Option.bind_some]
  cases h1:(decide (1≤many)&&decide (many≤4)) with
  | false=>rfl
  | true=>
   rw [cond_true,withinS,w64_of ⟨by omega,by omega⟩,Option.bind_some,Option.bind_some]
   cases (decide (0≤which)&&decide (which≤many-1)) with
   | false=>rfl
   | true=>
    have hmany:many≠0:=by
     rw [Bool.and_eq_true,decide_eq_true_iff] at h1
     omega
    simp only [Bool.not_true,Option.bind_some,cond_false]
    rw [keepE (p:=shardP many which) (by omega) (fun i w out hw ho=>?_)]
    ·rfl
    ·have hdw:=hd.doc w (List.mem_of_getElem? hw)
     have b1:=hdw.fields
     have b2:=hdw.nums
     rw [getI_nat',hw,Option.bind_some,rem_ok hmany,Option.bind_some]
     unfold shardP
     cases w.Id.tmod many==which
     ·rfl
     ·rw [cond_true,impl_clone F w (by omega) (by omega),Option.bind_some,catLok (by simp only [List.length_singleton];omega)];rfl
theorem spec_shard (F:Nat)(ds:List GDoc)(many which:Int)(hd:DocsFit ds)(hm: -1000≤many∧many≤1000)(hF:2000<F):M.spec_ShardOf F ds many which=some (shardS ds many which):=by
 have hl:=hd.few
 unfold M.spec_ShardOf shardS shardOkS
 rw [spec_docs F ds hd hF,Option.bind_some]
 cases hds:docsS ds with
 | false=>rfl
 | true=>
  rw [Bool.not_true,cond_false,inS,Option.bind_some]
  cases h1:(decide (1≤many)&&decide (many≤4)) with
  | false=>rfl
  | true=>
   rw [Bool.not_true,cond_false,inS,w64_of ⟨by omega,by omega⟩,Option.bind_some,Option.bind_some]
   cases (decide (0≤which)&&decide (which≤many-1)) with
   | false=>rfl
   | true=>
    have hmany:many≠0:=by
     rw [Bool.and_eq_true,decide_eq_true_iff] at h1
     omega
    simp only [Bool.not_true,cond_false]
    rw [keepW (ws:=ds) (p:=shardP many which) (by omega) (fun i w out hw ho=>?_) (fun out=>?_) F (by omega)]
    ·rfl
    ·have hi:=(List.getElem?_eq_some_iff.1 hw).1
     have hdw:=hd.doc w (List.mem_of_getElem? hw)
     have b1:=hdw.fields
     have b2:=hdw.nums
     dsimp only
     rw [decide_eq_true (by omega),cond_true,getI_nat',hw,Option.bind_some,rem_ok hmany,Option.bind_some,w64_succ' (by omega)]
     unfold shardP
     cases w.Id.tmod many==which
     ·rfl
     ·rw [cond_true,Option.bind_some,spec_clone F w (by omega) (by omega),Option.bind_some,catLok (by simp only [List.length_singleton];omega)];rfl
    ·dsimp only
     rw [decide_eq_false (by omega)];rfl
end Go.Fk
