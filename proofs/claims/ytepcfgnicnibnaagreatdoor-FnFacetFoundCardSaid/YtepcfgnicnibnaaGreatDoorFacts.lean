/-
  Closed facts on the program's tables. Printed by gen.py.
-/
import Derived.Test.YtepcfgnicnibnaaGreatDoorModel
import Derived.Test.YtepcfgnicnibnaaGreatDoorChecked
import Derived.KernelRfl
import Derived.Test.YtepcfgnicnibnaaGreatDoorCoreSQ
import Derived.Shelf.SlSortCmp.NoneTotal
import Derived.Test.YtepcfgnicnibnaaGreatDoorLays
import Derived.Test.YtepcfgnicnibnaaGreatDoorSegI
import Derived.Test.YtepcfgnicnibnaaGreatDoorFacetI
import Derived.Test.YtepcfgnicnibnaaGreatDoorCoreMZ
import Derived.Test.YtepcfgnicnibnaaGreatDoorCoreVY
namespace Go.Proofs.YtepcfgnicnibnaaGreatDoor
open Go Go.Fk Tryz
theorem mixed:prog.follows .mixedOrders=true:=by kernel_rfl
theorem c7s:L3.Pairwise fun a b=>a.1≠b.1:=by decide
theorem c4W (n:Int):i7 (z8 n).leastWords_:=a6w (ok:=fun x:X5=>i7 x.leastWords_) (by show ∀p∈L3,i7 p.2.leastWords_;decide) M1 n
theorem c4X (n:Int):i7 (z8 n).mostWords_:=a6w (ok:=fun x:X5=>i7 x.mostWords_) (by show ∀p∈L3,i7 p.2.mostWords_;decide) M1 n
theorem c4Y (n:Int):i7 (z8 n).low_:=a6w (ok:=fun x:X5=>i7 x.low_) (by show ∀p∈L3,i7 p.2.low_;decide) M1 n
theorem c4Z (n:Int):i7 (z8 n).high_:=a6w (ok:=fun x:X5=>i7 x.high_) (by show ∀p∈L3,i7 p.2.high_;decide) M1 n
theorem c40 (n:Int):i7 (z8 n).leastKids_:=a6w (ok:=fun x:X5=>i7 x.leastKids_) (by show ∀p∈L3,i7 p.2.leastKids_;decide) M1 n
theorem c41 (n:Int):i7 (z8 n).mostKids_:=a6w (ok:=fun x:X5=>i7 x.mostKids_) (by show ∀p∈L3,i7 p.2.mostKids_;decide) M1 n
theorem E4:TF prog 3 1 false (.int .i64 0) 8:=t_w
theorem tf4:TF prog 4 1 false (.bool false) 1:=t_w
theorem tf5:TF prog 5 1 false (.int .u8 0) 1:=t_w
theorem H3:TF prog 9 1 false (.string ⟨#[]⟩) 16:=t_w
theorem b7N:TF prog 22 1 false (.slice none 0 0) 24:=t_w
theorem T1:TF prog 23 1 false (.slice none 0 0) 24:=t_w
theorem a9g:TF prog 24 1 false (.slice none 0 0) 24:=t_w
theorem E2:TF prog 26 2 true (.agg #[.slice none 0 0,.slice none 0 0]) 48:=t_w
theorem a4l:TF prog 27 1 false (.slice none 0 0) 24:=t_w
theorem a0Y:TF prog 28 1 false (.slice none 0 0) 24:=t_w
theorem F2:TF prog 30 2 true (.agg #[.slice none 0 0,.slice none 0 0]) 48:=t_w
theorem a4H:TF prog 31 1 false (.slice none 0 0) 24:=t_w
theorem C6:TF prog 33 6 true (.agg #[.int .i64 0,.string ⟨#[]⟩,.slice none 0 0,.int .i64 0,.int .i64 0,.slice none 0 0]) 88:=t_w
theorem a3W:TF prog 39 1 false (.slice none 0 0) 24:=t_w
theorem M6:TF prog 45 2 true (.agg #[.int .i64 0,.int .i64 0]) 16:=t_w
theorem a1i:TF prog 51 1 false (.slice none 0 0) 24:=t_w
theorem b4o:TF prog 57 2 true (.agg #[.int .i64 0,.int .i64 0]) 16:=t_w
theorem a6E:TF prog 64 1 false (.slice none 0 0) 24:=t_w
theorem a6Y:TF prog 65 1 false (.slice none 0 0) 24:=t_w
theorem F7:TF prog 67 3 true (.agg #[.int .i64 0,.slice none 0 0,.slice none 0 0]) 56:=t_w
theorem a1W:TF prog 102 1 false (.slice none 0 0) 24:=t_w
theorem H6:TF prog 104 3 true (.agg #[.string ⟨#[]⟩,.string ⟨#[]⟩,.slice none 0 0]) 56:=t_w
theorem J8:TF prog 125 2 true (.agg #[.string ⟨#[]⟩,.int .i64 0]) 24:=t_w
theorem a3Y:TF prog 131 4 true (.agg #[.string ⟨#[]⟩,.int .i64 0,.int .i64 0,.int .i64 0]) 40:=t_w
theorem S1:TF prog 135 2 true (.agg #[.string ⟨#[]⟩,.string ⟨#[]⟩]) 32:=t_w
theorem c4F:TF prog 156 2 true (.agg #[.slice none 0 0,.int .i64 0]) 32:=t_w
theorem c6Z:TF prog 160 4 true (.agg #[.slice none 0 0,.slice none 0 0,.slice none 0 0,.slice none 0 0]) 96:=t_w
theorem a3v:TF prog 165 2 true (.agg #[.slice none 0 0,.string ⟨#[]⟩]) 40:=t_w
theorem X3:TF prog 174 2 true (.agg #[.int .i64 0,.slice none 0 0]) 32:=t_w
theorem V4:TF prog 202 2 true (.agg #[.string ⟨#[]⟩,.int .i64 0]) 24:=t_w
theorem Q1:TF prog 238 2 true (.agg #[.int .i64 0,.int .i64 0]) 16:=t_w
theorem c2Q:TF prog 289 8 true (.agg #[.bool false,.int .i64 0,.int .i64 0,.int .i64 0,.int .i64 0,.bool false,.int .i64 0,.int .i64 0]) 64:=t_w
theorem c60:TF prog 291 1 false (.map none) 8:=t_w
theorem a3i:FF prog 26 0 0:=f_w
theorem a3j:FF prog 26 1 1:=f_w
theorem S5:FF prog 30 0 0:=f_w
theorem L4:FF prog 30 1 1:=f_w
theorem a5Y:FF prog 33 0 0:=f_w
theorem W2:FF prog 33 1 1:=f_w
theorem Z9:FF prog 33 2 2:=f_w
theorem a0Q:FF prog 33 3 3:=f_w
theorem a35:FF prog 33 4 4:=f_w
theorem T6:FF prog 33 5 5:=f_w
theorem a86:FF prog 45 0 0:=f_w
theorem b0v:FF prog 45 1 1:=f_w
theorem b5w:FF prog 57 0 0:=f_w
theorem b5x:FF prog 57 1 1:=f_w
theorem S6:FF prog 67 0 0:=f_w
theorem a0R:FF prog 67 1 1:=f_w
theorem a1a:FF prog 67 2 2:=f_w
theorem a1Q:FF prog 104 0 0:=f_w
theorem a09:FF prog 104 1 1:=f_w
theorem Q3:FF prog 104 2 2:=f_w
theorem a3b:FF prog 125 0 0:=f_w
theorem a3c:FF prog 125 1 1:=f_w
theorem a9z:FF prog 131 0 0:=f_w
theorem b9b:FF prog 131 1 1:=f_w
theorem c3l:FF prog 131 3 3:=f_w
theorem a4p:FF prog 135 0 0:=f_w
theorem a9A:FF prog 135 1 1:=f_w
theorem a5K:FF prog 156 0 0:=f_w
theorem b5u:FF prog 156 1 1:=f_w
theorem b2r:FF prog 160 0 0:=f_w
theorem a5L:FF prog 160 1 2:=f_w
theorem a0l:FF prog 165 0 0:=f_w
theorem a5M:FF prog 165 1 1:=f_w
theorem a5N:FF prog 174 0 0:=f_w
theorem a4q:FF prog 174 1 1:=f_w
theorem a5O:FF prog 202 0 0:=f_w
theorem b2s:FF prog 202 1 1:=f_w
theorem b2u:FF prog 238 0 0:=f_w
theorem a8l:FF prog 238 1 1:=f_w
theorem b9c:FF prog 289 0 0:=f_w
theorem c3m:FF prog 289 1 1:=f_w
theorem c3n:FF prog 289 2 2:=f_w
theorem c3o:FF prog 289 3 3:=f_w
theorem c3p:FF prog 289 4 4:=f_w
theorem b5v:FF prog 289 5 5:=f_w
theorem c3q:FF prog 289 6 6:=f_w
theorem c3r:FF prog 289 7 7:=f_w
theorem c4V:FG prog 30 1 28 1:=by unfold FG;kernel_rfl
theorem c7w:Z4 prog 26=some [(0,1),(1,1)]:=by kernel_rfl
theorem c5z:Z4 prog 30=some [(0,1),(1,1)]:=by kernel_rfl
theorem b3N:Z4 prog 33=some [(0,1),(1,1),(2,1),(3,1),(4,1),(5,1)]:=by kernel_rfl
theorem c5A:Z4 prog 45=some [(0,1),(1,1)]:=by kernel_rfl
theorem c7x:Z4 prog 57=some [(0,1),(1,1)]:=by kernel_rfl
theorem b5Z:Z4 prog 67=some [(0,1),(1,1),(2,1)]:=by kernel_rfl
theorem c4y:Z4 prog 104=some [(0,1),(1,1),(2,1)]:=by kernel_rfl
theorem b9N:Z4 prog 125=some [(0,1),(1,1)]:=by kernel_rfl
theorem c4z:Z4 prog 131=some [(0,1),(1,1),(2,1),(3,1)]:=by kernel_rfl
theorem c4A:Z4 prog 135=some [(0,1),(1,1)]:=by kernel_rfl
theorem c4B:Z4 prog 156=some [(0,1),(1,1)]:=by kernel_rfl
theorem c6Y:Z4 prog 160=some [(0,2),(2,2)]:=by kernel_rfl
theorem b9O:Z4 prog 165=some [(0,1),(1,1)]:=by kernel_rfl
theorem c4C:Z4 prog 174=some [(0,1),(1,1)]:=by kernel_rfl
theorem c4D:Z4 prog 202=some [(0,1),(1,1)]:=by kernel_rfl
theorem c4E:Z4 prog 238=some [(0,1),(1,1)]:=by kernel_rfl
theorem c6R:prog.eqGuardType prog.depth 45=false:=by kernel_rfl
theorem c7r:(prog.fieldsOf 45).toList=[⟨ "Doc",3,0,false,"","",0⟩,⟨ "Points",3,1,false,"","",8⟩]:=by kernel_rfl
theorem c6S (a0:Int)(a1:Int)(b0:Int)(b1:Int)(w:World):(Op.equalIn 10000 45 (.agg #[.int .i64 a0,.int .i64 a1]) (.agg #[.int .i64 b0,.int .i64 b1])).run prog w= .ok ((a0==b0)&&((a1==b1))) w:=by
 have h:(Op.eqFields 9999 #[.int .i64 a0,.int .i64 a1] #[.int .i64 b0,.int .i64 b1] (prog.fieldsOf 45).toList).run prog w= .ok ((a0==b0)&&((a1==b1)&&(true))) w:=by
  rw [c7r]
  exact(b6y (by decide) (a92 w Tryz.underlying3 rfl rfl) (a92 w Tryz.underlying3 rfl rfl) (c1N 9998 w a0 b0 Tryz.underlying3) (b6y (by decide) (a92 w Tryz.underlying3 rfl rfl) (a92 w Tryz.underlying3 rfl rfl) (c1N 9998 w a1 b1 Tryz.underlying3) (c3e 9999 _ _ w)))
 rw [run_equalIn_struct w 9999 45 _ _ (by kernel_rfl) (by kernel_rfl),h]
 simp only [Bool.and_true]
theorem sortLay65:SlLaysF0.n6 prog Tryz.sortLay65_ren:=Tryz.sortLay65
theorem b8B (p:Option Addr)(cap:Nat)(fv:Value)(w:World):Calls prog (Tryz.sortLay65_ren.f 6) #[.slice p 0 cap,fv] w fun e w'=>e= .returned (.tuple #[])∧w'=w:=Go.Proofs.AnyF.slices_SortFunc_none sortLay65 p cap fv w
theorem sortLay102:SlLaysF0.n6 prog Tryz.sortLay102_ren:=Tryz.sortLay102
theorem b7r (p:Option Addr)(cap:Nat)(fv:Value)(w:World):Calls prog (Tryz.sortLay102_ren.f 6) #[.slice p 0 cap,fv] w fun e w'=>e= .returned (.tuple #[])∧w'=w:=Go.Proofs.AnyF.slices_SortFunc_none sortLay102 p cap fv w
theorem sortLay115:SlLaysF0.n6 prog Tryz.sortLay115_ren:=Tryz.sortLay115
theorem b7s (p:Option Addr)(cap:Nat)(fv:Value)(w:World):Calls prog (Tryz.sortLay115_ren.f 6) #[.slice p 0 cap,fv] w fun e w'=>e= .returned (.tuple #[])∧w'=w:=Go.Proofs.AnyF.slices_SortFunc_none sortLay115 p cap fv w
theorem co9:u7 prog 9:=J4 func9
theorem c5E:u7 prog 10:=J4 func10
theorem c5L:u7 prog 11:=J4 func11
theorem c1s:u7 prog 12:=J4 func12
theorem b72:u7 prog 13:=J4 func13
theorem c4J:u7 prog 14:=J4 func14
theorem c65:u7 prog 15:=J4 func15
theorem c66:u7 prog 16:=J4 func16
theorem c67:u7 prog 17:=J4 func17
theorem c6h:u7 prog 18:=J4 func18
theorem c68:u7 prog 19:=J4 func19
theorem c6u:u7 prog 20:=J4 func20
theorem c6v:u7 prog 21:=J4 func21
theorem c6x:u7 prog 22:=J4 func22
theorem c69:u7 prog 23:=J4 func23
theorem c7a:u7 prog 24:=J4 func24
theorem c7b:u7 prog 26:=J4 func26
theorem c7c:u7 prog 29:=J4 func29
theorem c4K:u7 prog 40:=J4 func40
theorem c4L:u7 prog 41:=J4 func41
theorem b32:u7 prog 42:=J4 func42
theorem b9Z:u7 prog 43:=J4 func43
theorem a3H:u7 prog 44:=J4 func44
theorem c25:u7 prog 45:=J4 func45
theorem c1G:u7 prog 46:=J4 func46
theorem c4M:u7 prog 47:=J4 func47
theorem c4N:u7 prog 48:=J4 func48
theorem a5X:u7 prog 49:=J4 func49
theorem c7e:u7 prog 50:=J4 func50
theorem c4O:u7 prog 51:=J4 func51
theorem c4P:u7 prog 52:=J4 func52
theorem c4Q:u7 prog 53:=J4 func53
theorem c7g:u7 prog 54:=J4 func54
theorem c7h:u7 prog 55:=J4 func55
theorem c7i:u7 prog 56:=J4 func56
theorem c7j:u7 prog 57:=J4 func57
theorem a2F:u7 prog 58:=J4 func58
theorem c7k:u7 prog 59:=J4 func59
theorem b73:u7 prog 60:=J4 func60
theorem c6P:u7 prog 61:=J4 func61
theorem c7l:u7 prog 62:=J4 func62
theorem c26:u7 prog 63:=J4 func63
theorem c7m:u7 prog 64:=J4 func64
theorem c7n:u7 prog 65:=J4 func65
theorem c4R:u7 prog 67:=J4 func67
theorem c27:u7 prog 68:=J4 func68
theorem c6Q:u7 prog 69:=J4 func69
theorem b6o:u7 prog 71:=J4 func71
theorem a9w:u7 prog 72:=J4 func72
theorem c28:u7 prog 73:=J4 func73
theorem c7o:u7 prog 75:=J4 func75
theorem c7p:u7 prog 77:=J4 func77
theorem c4S:u7 prog 78:=J4 func78
theorem c7q:u7 prog 80:=J4 func80
theorem c1H:u7 prog 81:=J4 func81
theorem c4T:u7 prog 82:=J4 func82
theorem c5F:u7 prog 100:=J4 func100
theorem c5G:u7 prog 101:=J4 func101
theorem c5H:u7 prog 102:=J4 func102
theorem c5I:u7 prog 103:=J4 func103
theorem b6j:u7 prog 104:=J4 func104
theorem c33:u7 prog 105:=J4 func105
theorem c5J:u7 prog 106:=J4 func106
theorem c34:u7 prog 107:=J4 func107
theorem c5K:u7 prog 108:=J4 func108
theorem c35:u7 prog 109:=J4 func109
theorem c5M:u7 prog 110:=J4 func110
theorem c1q:u7 prog 111:=J4 func111
theorem c1r:u7 prog 112:=J4 func112
theorem c5N:u7 prog 113:=J4 func113
theorem c5O:u7 prog 114:=J4 func114
theorem c5P:u7 prog 115:=J4 func115
theorem c36:u7 prog 117:=J4 func117
theorem c5Q:u7 prog 118:=J4 func118
theorem c5R:u7 prog 119:=J4 func119
theorem c1u:u7 prog 120:=J4 func120
theorem c5S:u7 prog 121:=J4 func121
theorem c5T:u7 prog 122:=J4 func122
theorem c5U:u7 prog 123:=J4 func123
theorem c38:u7 prog 124:=J4 func124
theorem c5V:u7 prog 125:=J4 func125
theorem c5W:u7 prog 126:=J4 func126
theorem c5X:u7 prog 127:=J4 func127
theorem c5Y:u7 prog 128:=J4 func128
theorem c39:u7 prog 129:=J4 func129
theorem b86:u7 prog 132:=J4 func132
theorem c5Z:u7 prog 133:=J4 func133
theorem b87:u7 prog 134:=J4 func134
theorem c1v:u7 prog 135:=J4 func135
theorem c50:u7 prog 136:=J4 func136
theorem c1w:u7 prog 137:=J4 func137
theorem a5J:u7 prog 141:=J4 func141
theorem c51:u7 prog 142:=J4 func142
theorem c1x:u7 prog 144:=J4 func144
theorem c52:u7 prog 145:=J4 func145
theorem c53:u7 prog 146:=J4 func146
theorem c54:u7 prog 150:=J4 func150
theorem c55:u7 prog 163:=J4 func163
theorem c56:u7 prog 164:=J4 func164
theorem c1y:u7 prog 165:=J4 func165
theorem c4a:u7 prog 167:=J4 func167
theorem c1z:u7 prog 168:=J4 func168
theorem c57:u7 prog 169:=J4 func169
theorem c4b:u7 prog 170:=J4 func170
theorem c58:u7 prog 171:=J4 func171
theorem c59:u7 prog 172:=J4 func172
theorem c1A:u7 prog 173:=J4 func173
theorem c1B:u7 prog 174:=J4 func174
theorem c6a:u7 prog 175:=J4 func175
theorem c6b:u7 prog 176:=J4 func176
theorem c6c:u7 prog 177:=J4 func177
theorem c6e:u7 prog 178:=J4 func178
theorem c6g:u7 prog 179:=J4 func179
theorem c6i:u7 prog 180:=J4 func180
theorem c6j:u7 prog 181:=J4 func181
theorem c6k:u7 prog 182:=J4 func182
theorem c6l:u7 prog 183:=J4 func183
theorem c6m:u7 prog 184:=J4 func184
theorem c6n:u7 prog 185:=J4 func185
theorem c6o:u7 prog 186:=J4 func186
theorem c4c:u7 prog 188:=J4 func188
theorem c6p:u7 prog 189:=J4 func189
theorem c1C:u7 prog 190:=J4 func190
theorem b6k:u7 prog 191:=J4 func191
theorem c4e:u7 prog 192:=J4 func192
theorem c1D:u7 prog 193:=J4 func193
theorem b6l:u7 prog 194:=J4 func194
theorem c6q:u7 prog 195:=J4 func195
theorem c6r:u7 prog 196:=J4 func196
theorem c4g:u7 prog 197:=J4 func197
theorem c6s:u7 prog 198:=J4 func198
theorem b6m:u7 prog 199:=J4 func199
theorem c6w:u7 prog 213:=J4 func213
theorem c6y:u7 prog 220:=J4 func220
theorem c6z:u7 prog 227:=J4 func227
theorem c4h:u7 prog 236:=J4 func236
theorem c1E:u7 prog 237:=J4 func237
theorem b88:u7 prog 238:=J4 func238
theorem b89:u7 prog 239:=J4 func239
theorem c6A:u7 prog 240:=J4 func240
theorem c6B:u7 prog 241:=J4 func241
theorem b6n:u7 prog 242:=J4 func242
theorem c4i:u7 prog 243:=J4 func243
theorem c4j:u7 prog 244:=J4 func244
theorem c4k:u7 prog 245:=J4 func245
theorem c6C:u7 prog 246:=J4 func246
theorem a9v:u7 prog 247:=J4 func247
theorem c1F:u7 prog 248:=J4 func248
theorem c6D:u7 prog 249:=J4 func249
theorem c6E:u7 prog 250:=J4 func250
theorem c6F:u7 prog 259:=J4 func259
theorem c6G:u7 prog 260:=J4 func260
theorem c4l:u7 prog 261:=J4 func261
theorem c4m:u7 prog 284:=J4 func284
theorem c6H:u7 prog 288:=J4 func288
theorem c4n:u7 prog 289:=J4 func289
theorem c6I:u7 prog 290:=J4 func290
theorem c6J:u7 prog 291:=J4 func291
theorem c4o:u7 prog 292:=J4 func292
theorem c4p:u7 prog 296:=J4 func296
theorem c6K:u7 prog 319:=J4 func319
theorem c6L:u7 prog 321:=J4 func321
theorem c4q:u7 prog 322:=J4 func322
theorem c6M:u7 prog 323:=J4 func323
theorem c6N:u7 prog 324:=J4 func324
theorem c6O:u7 prog 331:=J4 func331
theorem c4r:u7 prog 332:=J4 func332
end Go.Proofs.YtepcfgnicnibnaaGreatDoor
