/-
  Counting by a map and handing it out: loops for impl.FacetOf. Of no program.
-/
import Derived.Test.YtepcfgnicnibnaaGreatDoorCoreW
import Derived.Test.YtepcfgnicnibnaaGreatDoorCoreX
import Derived.Test.YtepcfgnicnibnaaGreatDoorTypes
set_option linter.unusedVariables false
namespace Go.Fk
open Go
def a7w (ns:List Int):List (Int×Int):=ns.foldl (fun m n=>a4Z n (A1 (a1s m n+1)) m) []
def a08 (p:Int×Int):a32:=a32.mk p.1 p.2
theorem b4C {σ α:Type}(g:σ→α→σ)(xs:List α): ∀(k i:Nat) (s:σ),i+k=xs.length→U6 (fun (i:Nat) s=>Option.bind (u0 xs (i:Int)) fun x=>some (g s x)) k i s=some ((xs.drop i).foldl g s)
 | 0,i,s,h=>by
  rw [List.drop_of_length_le (by omega)];rfl
 | k+1,i,s,h=>by
  have hi:i<xs.length:=by omega
  have e:u0 xs (i:Int)=some xs[i]:=by
   unfold u0
   rw [if_pos (by omega)]
   simp [hi]
  have:=b4C g xs k (i+1) (g s xs[i]) (by omega)
  unfold U6
  rw [e,a8,a8,this,List.drop_eq_getElem_cons hi,List.foldl_cons]
theorem b4E: ∀(k i:Nat),U6 (fun (_:Nat) (_:Unit)=>some ()) k i ()=some ()
 | 0,_=>rfl
 | k+1,i=>by
  unfold U6
  rw [a8];exact b4E k (i+1)
def b6a (m:List (Int×Int)):Prop:=∀p∈m,i7 p.1∧i7 p.2
theorem b6a.nil:b6a []:=fun _ h=>by cases h
theorem b4X {n v:Int}{p:Int×Int}: ∀{m:List (Int×Int)},p∈a4Z n v m→p=(n,v)∨p∈m
 | [],h=>by simpa [a4Z] using h
 | q::r,h=>by
  unfold a4Z at h
  split at h
  ·rcases List.mem_cons.1 h with h | h
   ·exact .inl h
   ·exact .inr (List.mem_cons_of_mem _ h)
  ·rcases List.mem_cons.1 h with h | h
   ·exact .inr (h▸List.mem_cons_self ..)
   ·rcases b4X h with h | h
    ·exact .inl h
    ·exact .inr (List.mem_cons_of_mem _ h)
theorem b6a.put {m:List (Int×Int)}(h:b6a m){n v:Int}(hn:i7 n)(hv:i7 v):b6a (a4Z n v m):=fun p hp=>by
 rcases b4X hp with rfl | hp
 ·exact⟨hn,hv⟩
 ·exact h p hp
end Go.Fk
