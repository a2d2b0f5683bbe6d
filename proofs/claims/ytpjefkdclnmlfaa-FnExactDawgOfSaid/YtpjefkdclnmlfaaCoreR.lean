/-
  Rows of the call's own whose content lies in the item, not in K: they are appended to, written by index, sorted. Of no program.
-/
import Derived.Test.YtpjefkdclnmlfaaCoreK
namespace Go.Fk
open Go
set_option linter.unusedSectionVars false
variable [dr:Dr]
section
variable {P:Program}{ops:Array Oper}{Q:Exit→Act→World→Prop}{N:Nat}{E:Env}{w w0 w':World}{K K0:KMap}{M:List Nat}{L:List Item}{C:World→Prop}
variable {x y z:Operand}{T T' U:TypeId}{size bytes:Nat}{zero:Value}{agg:Bool}{rest:List Oper}{d:Tmp}{ty:TypeId}{pos:String}{af:Array Edge}{gd:Option (Nat×Bool)}
theorem RowAt.append {α:Type}{t:Ty α}{cs news:List Value}{xs ys:List α}(h:RowAt true t K cs xs)(hnl:news.length=ys.length*t.size)(hn1: ∀c∈news,c.oneCell'=true)
  (hnr: ∀(k:Nat) z,ys[k]? =some z→∃u,t.rel K u z∧∀j d,u.cells.toList[j]? =some d→news[k*t.size+j]? =some d):RowAt true t K (cs++news) (xs++ys):=by
 obtain⟨⟨h1,h1x⟩,h2,h3⟩:=h
 have hcl:=h1x rfl
 have hlen:(cs++news).length=(xs++ys).length*t.size:=by rw [List.length_append,List.length_append,hcl,hnl,Nat.add_mul]
 refine⟨⟨by rw [hlen];exact Nat.le_refl _,fun _=>hlen⟩,fun c hc=>?_,fun i z hz=>?_⟩
 ·rcases List.mem_append.1 hc with hc | hc
  ·exact h2 c hc
  ·exact hn1 c hc
 ·by_cases hi:i<xs.length
  ·rw [List.getElem?_append_left hi] at hz
   obtain⟨u,hu,hk⟩:=h3 i z hz
   refine⟨u,hu,fun j d e=>?_⟩
   have:=hk j d e
   rw [List.getElem?_append_left (List.getElem?_eq_some_iff.1 this).1];exact this
  ·rw [List.getElem?_append_right (by omega)] at hz
   obtain⟨u,hu,hk⟩:=hnr _ z hz
   refine⟨u,hu,fun j d e=>?_⟩
   have h5:=hk j d e
   have hge:xs.length*t.size≤i*t.size:=Nat.mul_le_mul_right _ (by omega)
   rw [List.getElem?_append_right (by omega),hcl,←h5]
   congr 1
   rw [Nat.sub_mul];omega
theorem RowAt.nil {α:Type}(t:Ty α)(K:KMap):RowAt true t K [] ([]:List α):=⟨⟨by simp,fun _=>by simp⟩,by simp,fun i x h=>by simp at h⟩
end
end Go.Fk
