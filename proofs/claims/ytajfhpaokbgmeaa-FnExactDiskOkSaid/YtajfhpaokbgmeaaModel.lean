/-
  The functions' models over plain data (none: a panic, a size beyond memory, or out of fuel). Printed by gen.py.
-/
import Derived.Test.YtajfhpaokbgmeaaTypes
set_option linter.unusedVariables false
namespace Go.Fk
open Go

def M.laws_szFile (F : Nat) (p0_a : GFile) (p1_left : Int) : Option Int := (cond (decide ((w64 (p1_left - (p0_a.Name.length : Int))) < (0 : Int))) (some (-1 : Int)) (Option.bind (some (w64 ((w64 (p1_left - (p0_a.Name.length : Int))) - (p0_a.Text.length : Int)))) fun x11 => (cond (decide (x11 < (0 : Int))) (some (-1 : Int)) (some x11))))

def M.laws_szFileS (F : Nat) (p0_a : List GFile) (p1_left : Int) : Option Int := (cond (decide ((w64 (p1_left - (p0_a.length : Int))) < (0 : Int))) (some (-1 : Int)) (Option.bind ((Option.bind (whileM (σ := Int × Int) (τ := (Int) ⊕ (Int)) (fun (s17 : Int × Int) => (cond (decide (s17.2 < (p0_a.length : Int))) (Option.bind (getI p0_a s17.2) fun x32 => (Option.bind (M.laws_szFile F x32 s17.1) fun r43 => (cond (decide (r43 < (0 : Int))) (some (.inr (.inr (-1 : Int)))) (some (.inl (r43, (w64 (s17.2 + (1 : Int))))))))) (some (.inr (.inl s17.1))))) F ((w64 (p1_left - (p0_a.length : Int))), (0 : Int))) fun r18 => (r18.elim (fun t56 => (some (.inl t56))) (fun t57 => (some (.inr t57))))) : Option ((Int) ⊕ (Int))) fun o8 => o8.elim (fun s11 => (some s11)) (fun t58 => (some t58))))

def M.laws_szDisk (F : Nat) (p0_a : GDisk) (p1_left : Int) : Option Int := (Option.bind (M.laws_szFileS F p0_a.Files p1_left) fun r10 => (cond (decide (r10 < (0 : Int))) (some (-1 : Int)) (some r10)))

def M.spec_l1In (F : Nat) (p0_n : Int) (p1_low : Int) (p2_high : Int) : Option Bool := (cond (decide (p1_low ≤ p0_n)) (some (decide (p0_n ≤ p2_high))) (some false))

def M.spec_l1Fold (F : Nat) (p0_b : UInt8) : Option UInt8 := (Option.bind ((cond (decide ((65 : UInt8) ≤ p0_b)) (some (decide (p0_b ≤ (90 : UInt8)))) (some false)) : Option Bool) fun o1 => (cond o1 (some (p0_b + (32 : UInt8))) (Option.bind ((cond (decide ((97 : UInt8) ≤ p0_b)) (cond (decide (p0_b ≤ (122 : UInt8))) (some true) (cond (decide ((48 : UInt8) ≤ p0_b)) (some (decide (p0_b ≤ (57 : UInt8)))) (some false))) (cond (decide ((48 : UInt8) ≤ p0_b)) (some (decide (p0_b ≤ (57 : UInt8)))) (some false))) : Option Bool) fun o12 => (cond o12 (some p0_b) (some (0 : UInt8))))))

def M.spec_l1WordOk (F : Nat) (p0_s : Str) : Option Bool := (Option.bind ((Option.bind (whileM (σ := Int) (τ := (Unit) ⊕ (Bool)) (fun (s10 : Int) => (cond (decide (s10 < (p0_s.length : Int))) (Option.bind ((Option.bind (getI p0_s s10) fun x31 => (Option.bind (M.spec_l1Fold F x31) fun r34 => (Option.bind (getI p0_s s10) fun x41 => (cond (!(r34 == x41)) (some true) (Option.bind (getI p0_s s10) fun x50 => (some (x50 == (0 : UInt8)))))))) : Option Bool) fun o24 => (cond o24 (some (.inr (.inr false))) (some (.inl (w64 (s10 + (1 : Int))))))) (some (.inr (.inl ()))))) F (0 : Int)) fun r11 => (r11.elim (fun t61 => (some (.inl ()))) (fun t62 => (some (.inr t62))))) : Option ((Unit) ⊕ (Bool))) fun o2 => o2.elim (fun s5 => (Option.bind (M.spec_l1In F (p0_s.length : Int) (1 : Int) (12 : Int)) fun r63 => (some r63))) (fun t71 => (some t71)))

def M.spec_l19DiskOk (F : Nat) (p0_d : GDisk) : Option Bool := (Option.bind ((Option.bind (whileM (σ := Int) (τ := (Unit) ⊕ (Bool)) (fun (s17 : Int) => (cond (decide (s17 < (p0_d.Files.length : Int))) (Option.bind ((Option.bind (getI p0_d.Files s17) fun x38 => (Option.bind (M.spec_l1WordOk F x38.Name) fun r49 => (cond (!r49) (some true) (cond (decide ((0 : Int) < s17)) (Option.bind (getI p0_d.Files s17) fun x64 => (Option.bind (getI p0_d.Files (w64 (s17 - (1 : Int)))) fun x75 => (some (strLess x64.Name x75.Name || x64.Name == x75.Name)))) (some false))))) : Option Bool) fun o31 => (cond o31 (some (.inr (.inr false))) (some (.inl (w64 (s17 + (1 : Int))))))) (some (.inr (.inl ()))))) F (0 : Int)) fun r18 => (r18.elim (fun t99 => (some (.inl ()))) (fun t100 => (some (.inr t100))))) : Option ((Unit) ⊕ (Bool))) fun o9 => o9.elim (fun s12 => (some (decide ((p0_d.Files.length : Int) ≤ (24 : Int))))) (fun t102 => (some t102)))

def M.spec_DiskOk (F : Nat) (p0_d : GDisk) : Option Bool := (Option.bind (M.spec_l19DiskOk F p0_d) fun r9 => (some r9))

def M.laws_toFile (F : Nat) (p0_a : GFile) : Option GFile := (some (GFile.mk p0_a.Name p0_a.Text))

def M.laws_toFileS (F : Nat) (p0_a : List GFile) : Option (List GFile) := (Option.bind (makeL 32 (p0_a.length : Int) (GFile.mk ([] : Str) ([] : Str))) fun x5 => (Option.bind ((Option.bind (whileM (σ := Int × (List GFile)) (τ := (List GFile)) (fun (s26 : Int × (List GFile)) => (cond (decide (s26.1 < (p0_a.length : Int))) (Option.bind (getI p0_a s26.1) fun x43 => (Option.bind (M.laws_toFile F x43) fun r54 => (Option.bind (getI s26.2 s26.1) fun x64 => (some (.inl ((w64 (s26.1 + (1 : Int))), (List.set s26.2 (s26.1).toNat r54))))))) (some (.inr s26.2)))) F ((0 : Int), x5)) fun r27 => (some r27)) : Option (List GFile)) fun o16 => (some o16)))

def M.laws_toDisk (F : Nat) (p0_a : GDisk) : Option GDisk := (Option.bind (M.laws_toFileS F p0_a.Files) fun r17 => (some (GDisk.mk r17)))

def M.impl_within (F : Nat) (p0_n : Int) (p1_low : Int) (p2_high : Int) : Option Bool := (cond (decide (p1_low ≤ p0_n)) (some (decide (p0_n ≤ p2_high))) (some false))

def M.impl_wordByte (F : Nat) (p0_b : UInt8) : Option Bool := (cond (decide ((97 : UInt8) ≤ p0_b)) (cond (decide (p0_b ≤ (122 : UInt8))) (some true) (cond (decide ((48 : UInt8) ≤ p0_b)) (some (decide (p0_b ≤ (57 : UInt8)))) (some false))) (cond (decide ((48 : UInt8) ≤ p0_b)) (some (decide (p0_b ≤ (57 : UInt8)))) (some false)))

def M.impl_WordOk (F : Nat) (p0_s : Str) : Option Bool := (Option.bind ((Option.bind (forFrom (σ := Unit) (τ := Bool) (fun (i14 : Nat) (s10 : Unit) => (Option.bind (getI p0_s ((i14 : Nat) : Int)) fun x23 => (Option.bind (M.impl_wordByte F x23) fun r26 => (cond (!r26) (some (.inr false)) (some (.inl ())))))) p0_s.length 0 ()) fun r11 => r11.elim (fun s10 => (some (.inl ()))) (fun t38 => (some (.inr t38)))) : Option ((Unit) ⊕ (Bool))) fun o2 => o2.elim (fun s5 => (Option.bind (M.impl_within F (p0_s.length : Int) (1 : Int) (12 : Int)) fun r39 => (some r39))) (fun t47 => (some t47)))

def M.impl_DiskOk (F : Nat) (p0_d : GDisk) : Option Bool := (Option.bind ((Option.bind (forFrom (σ := Unit) (τ := Bool) (fun (i21 : Nat) (s17 : Unit) => (Option.bind (getI p0_d.Files ((i21 : Nat) : Int)) fun x30 => (Option.bind ((Option.bind (M.impl_WordOk F x30.Name) fun r54 => (cond (!r54) (some true) (cond (decide ((0 : Int) < ((i21 : Nat) : Int))) (Option.bind (getI p0_d.Files (w64 (((i21 : Nat) : Int) - (1 : Int)))) fun x70 => (some (!strLess x70.Name x30.Name))) (some false)))) : Option Bool) fun o47 => (cond o47 (some (.inr false)) (some (.inl ())))))) p0_d.Files.length 0 ()) fun r18 => r18.elim (fun s17 => (some (.inl ()))) (fun t96 => (some (.inr t96)))) : Option ((Unit) ⊕ (Bool))) fun o9 => o9.elim (fun s12 => (some (decide ((p0_d.Files.length : Int) ≤ (24 : Int))))) (fun t98 => (some t98)))

def M.laws_eqFile (F : Nat) (p0_a : GFile) (p1_b : GFile) : Option Bool := (cond (!(p0_a.Name == p1_b.Name)) (some false) (cond (!(p0_a.Text == p1_b.Text)) (some false) (some true)))

def M.laws_eqFileS (F : Nat) (p0_a : List GFile) (p1_b : List GFile) : Option Bool := (cond (!((p0_a.length : Int) == (p1_b.length : Int))) (some false) (Option.bind ((Option.bind (whileM (σ := Int) (τ := (Unit) ⊕ (Bool)) (fun (s19 : Int) => (cond (decide (s19 < (p0_a.length : Int))) (Option.bind (getI p0_a s19) fun x33 => (Option.bind (getI p1_b s19) fun x44 => (Option.bind (M.laws_eqFile F x33 x44) fun r55 => (cond (!r55) (some (.inr (.inr false))) (some (.inl (w64 (s19 + (1 : Int))))))))) (some (.inr (.inl ()))))) F (0 : Int)) fun r20 => (r20.elim (fun t70 => (some (.inl ()))) (fun t71 => (some (.inr t71))))) : Option ((Unit) ⊕ (Bool))) fun o11 => o11.elim (fun s14 => (some true)) (fun t72 => (some t72))))

def M.laws_eqDisk (F : Nat) (p0_a : GDisk) (p1_b : GDisk) : Option Bool := (Option.bind (M.laws_eqFileS F p0_a.Files p1_b.Files) fun r17 => (cond (!r17) (some false) (some true)))

def M.laws_FnExactDiskOk (F : Nat) (p0_aD : GDisk) : Option Bool := (Option.bind (M.laws_szDisk F p0_aD (1048576 : Int)) fun r9 => (cond (decide (r9 < (0 : Int))) (some true) (Option.bind (M.laws_toDisk F p0_aD) fun r21 => (Option.bind (M.spec_DiskOk F r21) fun r33 => (Option.bind (M.laws_toDisk F p0_aD) fun r41 => (Option.bind (M.impl_DiskOk F r41) fun r59 => (cond (!(r59 == r33)) (some false) (Option.bind (M.laws_toDisk F p0_aD) fun r73 => (Option.bind (M.laws_eqDisk F r41 r73) fun r85 => (cond (!r85) (some false) (some true)))))))))))

end Go.Fk
