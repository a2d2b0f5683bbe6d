/-
  Closed facts on the program's tables. Printed by gen.py.
-/
import Derived.Test.YtepcfgnicnibnaaModel
import Derived.Test.YtepcfgnicnibnaaChecked
import Derived.KernelRfl
import Derived.Test.YtepcfgnicnibnaaCoreS
import Derived.Shelf.SlSortCmp.NoneTotal
import Derived.Test.YtepcfgnicnibnaaSortLay80
import Derived.Test.YtepcfgnicnibnaaCoreMx
import Derived.Test.YtepcfgnicnibnaaCoreYa
namespace Go.Proofs.Ytepcfgnicnibnaa
open Go Go.Fk Try
theorem mixed:prog.follows .mixedOrders=true:=by kernel_rfl
theorem tf3:TF prog 3 1 false (.int .i64 0) 8:=t_w
theorem tf24:TF prog 24 1 false (.slice none 0 0) 24:=t_w
theorem tf56:TF prog 56 1 false (.slice none 0 0) 24:=t_w
theorem tf62:TF prog 62 2 true (.agg #[.int .i64 0,.int .i64 0]) 16:=t_w
theorem tf109:TF prog 109 2 true (.agg #[.int .i64 0,.int .i64 0]) 16:=t_w
theorem ff62_0:FF prog 62 0 0:=f_w
theorem ff62_1:FF prog 62 1 1:=f_w
theorem ff109_0:FF prog 109 0 0:=f_w
theorem ff109_1:FF prog 109 1 1:=f_w
theorem sortLay80:SlLaysF0.n6 prog Try.sortLay80_ren:=Try.sortLay80
theorem sortNone80 (p:Option Addr)(cap:Nat)(fv:Value)(w:World):Calls prog (Try.sortLay80_ren.f 6) #[.slice p 0 cap,fv] w fun e w'=>e= .returned (.tuple #[])∧w'=w:=Go.Proofs.AnyF.slices_SortFunc_none sortLay80 p cap fv w
theorem co7:CallOk prog 7:=c_w func7
theorem co8:CallOk prog 8:=c_w func8
theorem co9:CallOk prog 9:=c_w func9
theorem co10:CallOk prog 10:=c_w func10
theorem co11:CallOk prog 11:=c_w func11
theorem co12:CallOk prog 12:=c_w func12
theorem co13:CallOk prog 13:=c_w func13
theorem co14:CallOk prog 14:=c_w func14
theorem co15:CallOk prog 15:=c_w func15
theorem co37:CallOk prog 37:=c_w func37
theorem co38:CallOk prog 38:=c_w func38
theorem co39:CallOk prog 39:=c_w func39
theorem co40:CallOk prog 40:=c_w func40
theorem co41:CallOk prog 41:=c_w func41
theorem co42:CallOk prog 42:=c_w func42
theorem co43:CallOk prog 43:=c_w func43
theorem co44:CallOk prog 44:=c_w func44
theorem co45:CallOk prog 45:=c_w func45
theorem co46:CallOk prog 46:=c_w func46
theorem co47:CallOk prog 47:=c_w func47
theorem co75:CallOk prog 75:=c_w func75
theorem co76:CallOk prog 76:=c_w func76
theorem co77:CallOk prog 77:=c_w func77
theorem co78:CallOk prog 78:=c_w func78
theorem co79:CallOk prog 79:=c_w func79
theorem co80:CallOk prog 80:=c_w func80
theorem co101:CallOk prog 101:=c_w func101
theorem co102:CallOk prog 102:=c_w func102
theorem co103:CallOk prog 103:=c_w func103
theorem co120:CallOk prog 120:=c_w func120
end Go.Proofs.Ytepcfgnicnibnaa
