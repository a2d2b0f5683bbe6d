/-
  What a word is worth: points of its places. The law, on the models.
-/
import Derived.Test.YtpdfkjjmcnhakaaGreatDoorLawPlace
set_option linter.unusedVariables false
namespace Go.Fk
open Go
theorem b7v {c:o0}{docs:List u1}{n t:l3}{p:D1}(h:p∈docs.flatMap (I2 c n t)): ∃d∈docs,p=⟨d.Id,T0 c d n t⟩∧0<(T0 c d n t).length:=by
 obtain⟨d,hd,hp⟩:=List.mem_flatMap.1 h
 unfold I2 at hp
 split at hp
 ·rename_i hl
  exact⟨d,hd,List.mem_singleton.1 hp,of_decide_eq_true hl⟩
 ·cases hp
theorem b6W {c:o0}{docs:List u1}(h2:T3 docs=true){n t:l3}{d:u1}(hd:d∈docs):atS (X4 c docs) n t d.Id=if 0<(T0 c d n t).length then T0 c d n t else []:=by
 have huniq: ∀e∈docs,e.Id=d.Id→e=d:=fun e he hid=>by
  have h3:=a7N ((a1S h2).2.2) he
  have h4:=a7N ((a1S h2).2.2) hd
  rw [hid,h4] at h3
  exact(Option.some.inj h3).symm
 by_cases h0:(atS (X4 c docs) n t d.Id).length=0
 ·split
  ·rename_i hl
   unfold atS at h0
   rw [a4u] at h0
   have hm:(⟨d.Id,T0 c d n t⟩:D1)∈docs.flatMap (I2 c n t):=List.mem_flatMap.2 ⟨d,hd,by unfold I2;rw [b8 hl,if_pos rfl];exact List.mem_singleton.2 rfl⟩
   cases hf:(docs.flatMap (I2 c n t)).find? fun p=>p.Doc==d.Id with
   | none=>
    have:=List.find?_eq_none.1 hf _ hm
    simp at this
   | some p=>
    rw [hf] at h0
    obtain⟨e,he,rfl,hp⟩:=b7v (List.mem_of_find?_eq_some hf)
    simp only [Option.elim] at h0
    omega
  ·exact List.length_eq_zero_iff.1 h0
 ·obtain⟨e,he,hid,hat⟩:=b2x h0
  rw [huniq e he hid] at hat
  rw [hat] at h0 ⊢
  rw [if_pos (by omega)]
end Go.Fk
