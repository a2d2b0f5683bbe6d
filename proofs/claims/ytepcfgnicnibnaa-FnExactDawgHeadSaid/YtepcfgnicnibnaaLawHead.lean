/-
  Ranks and beginnings over an automaton's words. Of no program.
-/
import Derived.Test.YtepcfgnicnibnaaLawVisit
namespace Go.Fk
open Go
theorem forE_run {σ:Type}{f:Nat→σ→Option σ}(Inv:Nat→σ→Prop)(n:Nat)
  (step: ∀i s,i<n→Inv i s→∃s',f i s=some s'∧Inv (i+1) s'): ∀(k i:Nat) (s:σ),i+k=n→Inv i s→∃t,forE f k i s=some t∧Inv n t
 | 0,i,s,e,hi=>⟨s,rfl,by rw [←e];exact hi⟩
 | k+1,i,s,e,hi=>by
  obtain⟨s',h1,h2⟩:=step i s (by omega) hi
  obtain⟨t,h3,h4⟩:=forE_run Inv n step k (i+1) s' (by omega) h2
  exact⟨t,by rw [forE,h1];exact h3,h4⟩
def hasPre (s x:Str):Bool:=decide (s.length≤x.length)&&x.take s.length==s
theorem hasPrefix_ok (F:Nat)(x s:Str):M.strings_HasPrefix F x s=some (hasPre s x):=by
 unfold M.strings_HasPrefix M.stringslite_HasPrefix hasPre
 by_cases h:s.length≤x.length
 ·rw [decide_eq_true (show (s.length:Int)≤(x.length:Int) by omega),cond_true,subS,if_pos ⟨by omega,by omega,by omega⟩,decide_eq_true h]
  simp
 ·rw [decide_eq_false (show ¬(s.length:Int)≤(x.length:Int) by omega),decide_eq_false h];rfl
theorem IsDawg.few {d:Sts}{ws:List Str}(h:IsDawg d ws):ws.length≤40:=h.up.few
theorem head_ok (F:Nat)(d:Sts)(s:Str)(hF:d.length+1000<F)(hl:d.length<9000000000000000000):M.impl_DawgHead F d s=some (if okS d then (wordsOf d).filter (hasPre s) else []):=by
 unfold M.impl_DawgHead
 rw [wordsIn_ok F d hF hl,Option.bind_some]
 cases hok:okS d with
 | false=>rfl
 | true=>
  have hf:=((okS_iff d).1 hok).few
  simp only [if_true]
  generalize wordsOf d=ws at *
  have key:=fun f step=>forE_run (σ:=List Str) (f:=f) (fun i s'=>s'=(ws.take i).filter (hasPre s)) ws.length step ws.length 0 [] (by omega) (by simp)
  generalize hg:(fun (i39:Nat) (s35:(List Str))=>_:Nat→List Str→Option (List Str))=f
  obtain⟨t,ht,hp⟩:=key f (fun i s' hi hs=>by
   subst hg hs
   dsimp only
   rw [getI_at hi,Option.bind_some,hasPrefix_ok,Option.bind_some,List.take_succ_eq_append_getElem hi,List.filter_append]
   have hle:((ws.take i).filter (hasPre s)).length≤40:=by
    have h1:=List.length_filter_le (hasPre s) (ws.take i)
    simp only [List.length_take] at h1
    omega
   cases hpre:hasPre s ws[i] with
   | false=>exact⟨_,rfl,by simp [hpre]⟩
   | true=>
    rw [cond_true,catL_ok (by simp only [List.length_singleton];omega)]
    exact⟨_,rfl,by simp [hpre]⟩)
  rw [ht,hp,List.take_length]
  rfl
end Go.Fk
