/-
  Closed facts on the program's tables. Printed by gen.py.
-/
import Derived.Test.YtnloenhmkdpgeaaGreatDoorModel
import Derived.Test.YtnloenhmkdpgeaaGreatDoorChecked
import Derived.KernelRfl
import Derived.Test.YtnloenhmkdpgeaaGreatDoorCoreSQ
import Derived.Shelf.SlSortCmp.NoneTotal
import Derived.Test.YtnloenhmkdpgeaaGreatDoorLays
import Derived.Test.YtnloenhmkdpgeaaGreatDoorSegI
import Derived.Test.YtnloenhmkdpgeaaGreatDoorCoreMZ
import Derived.Test.YtnloenhmkdpgeaaGreatDoorCoreVY
namespace Go.Proofs.YtnloenhmkdpgeaaGreatDoor
open Go Go.Fk Tryz
theorem mixed:prog.follows .mixedOrders=true:=by kernel_rfl
theorem c7c:G8.Pairwise fun a b=>a.1≠b.1:=by decide
theorem c4K (n:Int):i7 (A7 n).leastWords_:=a6Y (ok:=fun x:N3=>i7 x.leastWords_) (by show ∀p∈G8,i7 p.2.leastWords_;decide) I5 n
theorem c4L (n:Int):i7 (A7 n).mostWords_:=a6Y (ok:=fun x:N3=>i7 x.mostWords_) (by show ∀p∈G8,i7 p.2.mostWords_;decide) I5 n
theorem c4M (n:Int):i7 (A7 n).low_:=a6Y (ok:=fun x:N3=>i7 x.low_) (by show ∀p∈G8,i7 p.2.low_;decide) I5 n
theorem c4N (n:Int):i7 (A7 n).high_:=a6Y (ok:=fun x:N3=>i7 x.high_) (by show ∀p∈G8,i7 p.2.high_;decide) I5 n
theorem c4O (n:Int):i7 (A7 n).leastKids_:=a6Y (ok:=fun x:N3=>i7 x.leastKids_) (by show ∀p∈G8,i7 p.2.leastKids_;decide) I5 n
theorem c4P (n:Int):i7 (A7 n).mostKids_:=a6Y (ok:=fun x:N3=>i7 x.mostKids_) (by show ∀p∈G8,i7 p.2.mostKids_;decide) I5 n
theorem E6:TF prog 3 1 false (.int .i64 0) 8:=t_w
theorem tf4:TF prog 4 1 false (.bool false) 1:=t_w
theorem tf5:TF prog 5 1 false (.int .u8 0) 1:=t_w
theorem G7:TF prog 9 1 false (.string ⟨#[]⟩) 16:=t_w
theorem b7Z:TF prog 22 1 false (.slice none 0 0) 24:=t_w
theorem W1:TF prog 23 1 false (.slice none 0 0) 24:=t_w
theorem a9v:TF prog 24 1 false (.slice none 0 0) 24:=t_w
theorem B9:TF prog 26 2 true (.agg #[.slice none 0 0,.slice none 0 0]) 48:=t_w
theorem a1b:TF prog 27 1 false (.slice none 0 0) 24:=t_w
theorem a1e:TF prog 28 1 false (.slice none 0 0) 24:=t_w
theorem C4:TF prog 30 2 true (.agg #[.slice none 0 0,.slice none 0 0]) 48:=t_w
theorem a5u:TF prog 33 1 false (.slice none 0 0) 24:=t_w
theorem B1:TF prog 35 6 true (.agg #[.int .i64 0,.string ⟨#[]⟩,.slice none 0 0,.int .i64 0,.int .i64 0,.slice none 0 0]) 88:=t_w
theorem a5B:TF prog 37 1 false (.slice none 0 0) 24:=t_w
theorem a7g:TF prog 41 1 false (.slice none 0 0) 24:=t_w
theorem a7y:TF prog 42 1 false (.slice none 0 0) 24:=t_w
theorem E8:TF prog 44 3 true (.agg #[.int .i64 0,.slice none 0 0,.slice none 0 0]) 56:=t_w
theorem a1g:TF prog 46 1 false (.slice none 0 0) 24:=t_w
theorem a02:TF prog 48 2 true (.agg #[.int .i64 0,.slice none 0 0]) 32:=t_w
theorem V4:TF prog 50 2 true (.agg #[.int .i64 0,.int .i64 0]) 16:=t_w
theorem Q2:TF prog 71 2 true (.agg #[.int .i64 0,.int .i64 0]) 16:=t_w
theorem P2:TF prog 99 3 true (.agg #[.string ⟨#[]⟩,.string ⟨#[]⟩,.slice none 0 0]) 56:=t_w
theorem M3:TF prog 107 2 true (.agg #[.string ⟨#[]⟩,.int .i64 0]) 24:=t_w
theorem c4n:TF prog 113 4 true (.agg #[.slice none 0 0,.slice none 0 0,.slice none 0 0,.slice none 0 0]) 96:=t_w
theorem Y9:TF prog 137 2 true (.agg #[.string ⟨#[]⟩,.int .i64 0]) 24:=t_w
theorem c4o:TF prog 141 2 true (.agg #[.slice none 0 0,.int .i64 0]) 32:=t_w
theorem a4h:TF prog 144 2 true (.agg #[.slice none 0 0,.string ⟨#[]⟩]) 40:=t_w
theorem U6:TF prog 148 2 true (.agg #[.string ⟨#[]⟩,.string ⟨#[]⟩]) 32:=t_w
theorem a4I:TF prog 160 4 true (.agg #[.string ⟨#[]⟩,.int .i64 0,.int .i64 0,.int .i64 0]) 40:=t_w
theorem c2B:TF prog 177 8 true (.agg #[.bool false,.int .i64 0,.int .i64 0,.int .i64 0,.int .i64 0,.bool false,.int .i64 0,.int .i64 0]) 64:=t_w
theorem c6O:TF prog 179 1 false (.map none) 8:=t_w
theorem a34:FF prog 26 0 0:=f_w
theorem a3y:FF prog 26 1 1:=f_w
theorem L3:FF prog 30 0 0:=f_w
theorem M2:FF prog 30 1 1:=f_w
theorem a6x:FF prog 35 0 0:=f_w
theorem Z3:FF prog 35 1 1:=f_w
theorem a0B:FF prog 35 2 2:=f_w
theorem a1w:FF prog 35 3 3:=f_w
theorem a4L:FF prog 35 4 4:=f_w
theorem W9:FF prog 35 5 5:=f_w
theorem P6:FF prog 44 0 0:=f_w
theorem a1x:FF prog 44 1 1:=f_w
theorem a1S:FF prog 44 2 2:=f_w
theorem a5U:FF prog 48 0 0:=f_w
theorem a4M:FF prog 48 1 1:=f_w
theorem b5J:FF prog 50 0 0:=f_w
theorem b1k:FF prog 50 1 1:=f_w
theorem a4N:FF prog 71 0 0:=f_w
theorem a4O:FF prog 71 1 1:=f_w
theorem a3z:FF prog 99 0 0:=f_w
theorem a21:FF prog 99 1 1:=f_w
theorem Y0:FF prog 99 2 2:=f_w
theorem a3Z:FF prog 107 0 0:=f_w
theorem a30:FF prog 107 1 1:=f_w
theorem b2Y:FF prog 113 0 0:=f_w
theorem a6n:FF prog 113 1 2:=f_w
theorem a6o:FF prog 137 0 0:=f_w
theorem b2Z:FF prog 137 1 1:=f_w
theorem a6p:FF prog 141 0 0:=f_w
theorem b5H:FF prog 141 1 1:=f_w
theorem a0R:FF prog 144 0 0:=f_w
theorem a6q:FF prog 144 1 1:=f_w
theorem a5a:FF prog 148 0 0:=f_w
theorem b0n:FF prog 148 1 1:=f_w
theorem b0o:FF prog 160 0 0:=f_w
theorem b83:FF prog 160 1 1:=f_w
theorem c22:FF prog 160 3 3:=f_w
theorem b84:FF prog 177 0 0:=f_w
theorem c23:FF prog 177 1 1:=f_w
theorem c25:FF prog 177 2 2:=f_w
theorem c26:FF prog 177 3 3:=f_w
theorem c27:FF prog 177 4 4:=f_w
theorem b5I:FF prog 177 5 5:=f_w
theorem c28:FF prog 177 6 6:=f_w
theorem c29:FF prog 177 7 7:=f_w
theorem c4H:FG prog 30 1 28 1:=by unfold FG;kernel_rfl
theorem c7e:a0P prog 26=some [(0,1),(1,1)]:=by kernel_rfl
theorem c5h:a0P prog 30=some [(0,1),(1,1)]:=by kernel_rfl
theorem a7c:a0P prog 35=some [(0,1),(1,1),(2,1),(3,1),(4,1),(5,1)]:=by kernel_rfl
theorem b4M:a0P prog 44=some [(0,1),(1,1),(2,1)]:=by kernel_rfl
theorem c5i:a0P prog 48=some [(0,1),(1,1)]:=by kernel_rfl
theorem c6M:a0P prog 50=some [(0,1),(1,1)]:=by kernel_rfl
theorem c3D:a0P prog 71=some [(0,1),(1,1)]:=by kernel_rfl
theorem c6N:a0P prog 99=some [(0,1),(1,1),(2,1)]:=by kernel_rfl
theorem b9E:a0P prog 107=some [(0,1),(1,1)]:=by kernel_rfl
theorem c4i:a0P prog 113=some [(0,2),(2,2)]:=by kernel_rfl
theorem c4j:a0P prog 137=some [(0,1),(1,1)]:=by kernel_rfl
theorem c4k:a0P prog 141=some [(0,1),(1,1)]:=by kernel_rfl
theorem b9F:a0P prog 144=some [(0,1),(1,1)]:=by kernel_rfl
theorem c4l:a0P prog 148=some [(0,1),(1,1)]:=by kernel_rfl
theorem c4m:a0P prog 160=some [(0,1),(1,1),(2,1),(3,1)]:=by kernel_rfl
theorem c39:prog.eqGuardType prog.depth 71=false:=by kernel_rfl
theorem c7b:(prog.fieldsOf 71).toList=[⟨ "Doc",3,0,false,"","",0⟩,⟨ "Points",3,1,false,"","",8⟩]:=by kernel_rfl
theorem c4a (a0:Int)(a1:Int)(b0:Int)(b1:Int)(w:World):(Op.equalIn 10000 71 (.agg #[.int .i64 a0,.int .i64 a1]) (.agg #[.int .i64 b0,.int .i64 b1])).run prog w= .ok ((a0==b0)&&((a1==b1))) w:=by
 have h:(Op.eqFields 9999 #[.int .i64 a0,.int .i64 a1] #[.int .i64 b0,.int .i64 b1] (prog.fieldsOf 71).toList).run prog w= .ok ((a0==b0)&&((a1==b1)&&(true))) w:=by
  rw [c7b]
  exact(b6H (by decide) (b0S w Tryz.underlying3 rfl rfl) (b0S w Tryz.underlying3 rfl rfl) (c1L 9998 w a0 b0 Tryz.underlying3) (b6H (by decide) (b0S w Tryz.underlying3 rfl rfl) (b0S w Tryz.underlying3 rfl rfl) (c1L 9998 w a1 b1 Tryz.underlying3) (c2Y 9999 _ _ w)))
 rw [run_equalIn_struct w 9999 71 _ _ (by kernel_rfl) (by kernel_rfl),h]
 simp only [Bool.and_true]
theorem sortLay112:SlLaysF0.n6 prog Tryz.sortLay112_ren:=Tryz.sortLay112
theorem b7G (p:Option Addr)(cap:Nat)(fv:Value)(w:World):Calls prog (Tryz.sortLay112_ren.f 6) #[.slice p 0 cap,fv] w fun e w'=>e= .returned (.tuple #[])∧w'=w:=Go.Proofs.AnyF.slices_SortFunc_none sortLay112 p cap fv w
theorem sortLay143:SlLaysF0.n6 prog Tryz.sortLay143_ren:=Tryz.sortLay143
theorem b7H (p:Option Addr)(cap:Nat)(fv:Value)(w:World):Calls prog (Tryz.sortLay143_ren.f 6) #[.slice p 0 cap,fv] w fun e w'=>e= .returned (.tuple #[])∧w'=w:=Go.Proofs.AnyF.slices_SortFunc_none sortLay143 p cap fv w
theorem a9k:x9 prog 16:=L1 func16
theorem c2P:x9 prog 19:=L1 func19
theorem b4z:x9 prog 23:=L1 func23
theorem c4u:x9 prog 24:=L1 func24
theorem b4A:x9 prog 28:=L1 func28
theorem b6y:x9 prog 30:=L1 func30
theorem b6z:x9 prog 31:=L1 func31
theorem c6w:x9 prog 32:=L1 func32
theorem b9U:x9 prog 34:=L1 func34
theorem c1G:x9 prog 36:=L1 func36
theorem b6A:x9 prog 37:=L1 func37
theorem c6W:x9 prog 43:=L1 func43
theorem c6Y:x9 prog 45:=L1 func45
theorem c6y:x9 prog 48:=L1 func48
theorem c61:x9 prog 50:=L1 func50
theorem e0b:x9 prog 52:=L1 func52
theorem e0c:x9 prog 53:=L1 func53
theorem c97:x9 prog 54:=L1 func54
theorem c1H:x9 prog 55:=L1 func55
theorem c2Q:x9 prog 56:=L1 func56
theorem b2o:x9 prog 58:=L1 func58
theorem c4v:x9 prog 59:=L1 func59
theorem c6A:x9 prog 60:=L1 func60
theorem c63:x9 prog 61:=L1 func61
theorem c64:x9 prog 62:=L1 func62
theorem c65:x9 prog 63:=L1 func63
theorem c2R:x9 prog 64:=L1 func64
theorem c1I:x9 prog 65:=L1 func65
theorem b0l:x9 prog 66:=L1 func66
theorem c1J:x9 prog 67:=L1 func67
theorem c2S:x9 prog 68:=L1 func68
theorem c4w:x9 prog 69:=L1 func69
theorem b9V:x9 prog 70:=L1 func70
theorem c4x:x9 prog 71:=L1 func71
theorem c6B:x9 prog 72:=L1 func72
theorem b78:x9 prog 73:=L1 func73
theorem a5x:x9 prog 74:=L1 func74
theorem c66:x9 prog 75:=L1 func75
theorem c6C:x9 prog 76:=L1 func76
theorem a4r:x9 prog 77:=L1 func77
theorem c4y:x9 prog 78:=L1 func78
theorem c4z:x9 prog 79:=L1 func79
theorem c4A:x9 prog 80:=L1 func80
theorem c4B:x9 prog 83:=L1 func83
theorem b0m:x9 prog 85:=L1 func85
theorem c4C:x9 prog 86:=L1 func86
theorem a7T:x9 prog 87:=L1 func87
theorem c67:x9 prog 88:=L1 func88
theorem c4D:x9 prog 89:=L1 func89
theorem c68:x9 prog 91:=L1 func91
theorem c6D:x9 prog 92:=L1 func92
theorem b4B:x9 prog 93:=L1 func93
theorem c6E:x9 prog 94:=L1 func94
theorem c69:x9 prog 95:=L1 func95
theorem c4E:x9 prog 99:=L1 func99
theorem c3M:x9 prog 100:=L1 func100
theorem b6r:x9 prog 101:=L1 func101
theorem c1u:x9 prog 102:=L1 func102
theorem c5p:x9 prog 104:=L1 func104
theorem c5q:x9 prog 105:=L1 func105
theorem c5r:x9 prog 106:=L1 func106
theorem c5s:x9 prog 107:=L1 func107
theorem c5u:x9 prog 108:=L1 func108
theorem c1v:x9 prog 109:=L1 func109
theorem c5v:x9 prog 110:=L1 func110
theorem c5w:x9 prog 111:=L1 func111
theorem c5x:x9 prog 112:=L1 func112
theorem c3N:x9 prog 114:=L1 func114
theorem c3O:x9 prog 115:=L1 func115
theorem c5y:x9 prog 116:=L1 func116
theorem c5z:x9 prog 117:=L1 func117
theorem c3P:x9 prog 118:=L1 func118
theorem c5A:x9 prog 119:=L1 func119
theorem c3Q:x9 prog 120:=L1 func120
theorem c5B:x9 prog 121:=L1 func121
theorem b81:x9 prog 122:=L1 func122
theorem c1w:x9 prog 123:=L1 func123
theorem c5C:x9 prog 124:=L1 func124
theorem c5D:x9 prog 125:=L1 func125
theorem c3R:x9 prog 126:=L1 func126
theorem c5E:x9 prog 127:=L1 func127
theorem c1x:x9 prog 128:=L1 func128
theorem c3S:x9 prog 129:=L1 func129
theorem c1y:x9 prog 130:=L1 func130
theorem c5F:x9 prog 131:=L1 func131
theorem c5G:x9 prog 132:=L1 func132
theorem c3T:x9 prog 133:=L1 func133
theorem c5H:x9 prog 134:=L1 func134
theorem c5I:x9 prog 135:=L1 func135
theorem c5J:x9 prog 136:=L1 func136
theorem c3U:x9 prog 137:=L1 func137
theorem c5K:x9 prog 138:=L1 func138
theorem c1z:x9 prog 139:=L1 func139
theorem b6s:x9 prog 140:=L1 func140
theorem c5L:x9 prog 143:=L1 func143
theorem c5M:x9 prog 144:=L1 func144
theorem c3V:x9 prog 147:=L1 func147
theorem c5P:x9 prog 148:=L1 func148
theorem c5Q:x9 prog 149:=L1 func149
theorem c5R:x9 prog 150:=L1 func150
theorem c5S:x9 prog 151:=L1 func151
theorem c5T:x9 prog 152:=L1 func152
theorem c5U:x9 prog 153:=L1 func153
theorem c3W:x9 prog 156:=L1 func156
theorem c5V:x9 prog 157:=L1 func157
theorem c1A:x9 prog 158:=L1 func158
theorem c5W:x9 prog 159:=L1 func159
theorem c5X:x9 prog 160:=L1 func160
theorem c5Y:x9 prog 161:=L1 func161
theorem c5Z:x9 prog 162:=L1 func162
theorem c50:x9 prog 163:=L1 func163
theorem c51:x9 prog 164:=L1 func164
theorem c1B:x9 prog 165:=L1 func165
theorem c52:x9 prog 166:=L1 func166
theorem c53:x9 prog 167:=L1 func167
theorem c54:x9 prog 168:=L1 func168
theorem c1C:x9 prog 169:=L1 func169
theorem b6u:x9 prog 170:=L1 func170
theorem c3X:x9 prog 171:=L1 func171
theorem c1D:x9 prog 172:=L1 func172
theorem b6v:x9 prog 173:=L1 func173
theorem c55:x9 prog 174:=L1 func174
theorem c56:x9 prog 175:=L1 func175
theorem c3Y:x9 prog 176:=L1 func176
theorem c57:x9 prog 177:=L1 func177
theorem b6w:x9 prog 178:=L1 func178
theorem c58:x9 prog 179:=L1 func179
theorem c6a:x9 prog 180:=L1 func180
theorem b82:x9 prog 183:=L1 func183
theorem c6c:x9 prog 184:=L1 func184
theorem c6e:x9 prog 185:=L1 func185
theorem c3Z:x9 prog 196:=L1 func196
theorem c6g:x9 prog 197:=L1 func197
theorem c30:x9 prog 198:=L1 func198
theorem c31:x9 prog 199:=L1 func199
theorem c6h:x9 prog 200:=L1 func200
theorem c6i:x9 prog 204:=L1 func204
theorem c6j:x9 prog 205:=L1 func205
theorem b0k:x9 prog 206:=L1 func206
theorem c6k:x9 prog 207:=L1 func207
theorem c6l:x9 prog 208:=L1 func208
theorem c6m:x9 prog 209:=L1 func209
theorem c6n:x9 prog 210:=L1 func210
theorem c32:x9 prog 211:=L1 func211
theorem c33:x9 prog 212:=L1 func212
theorem c6o:x9 prog 213:=L1 func213
theorem c6p:x9 prog 214:=L1 func214
theorem c34:x9 prog 223:=L1 func223
theorem c35:x9 prog 229:=L1 func229
theorem c6q:x9 prog 232:=L1 func232
theorem c6r:x9 prog 233:=L1 func233
theorem c36:x9 prog 234:=L1 func234
theorem c6s:x9 prog 238:=L1 func238
theorem c6u:x9 prog 242:=L1 func242
theorem c6v:x9 prog 243:=L1 func243
theorem c38:x9 prog 244:=L1 func244
end Go.Proofs.YtnloenhmkdpgeaaGreatDoor
