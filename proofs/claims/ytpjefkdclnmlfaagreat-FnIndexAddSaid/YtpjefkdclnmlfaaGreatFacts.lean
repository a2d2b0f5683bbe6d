/-
  Closed facts on the program's tables. Printed by gen.py.
-/
import Derived.Test.YtpjefkdclnmlfaaGreatModel
import Derived.Test.YtpjefkdclnmlfaaGreatChecked
import Derived.KernelRfl
import Derived.Test.YtpjefkdclnmlfaaGreatCoreSQ
import Derived.Shelf.SlSortCmp.NoneTotal
import Derived.Test.YtpjefkdclnmlfaaGreatSortLay75
import Derived.Test.YtpjefkdclnmlfaaGreatSortLay129
import Derived.Test.YtpjefkdclnmlfaaGreatSortLay179
import Derived.Test.YtpjefkdclnmlfaaGreatSegI
import Derived.Test.YtpjefkdclnmlfaaGreatSortZ
import Derived.Test.YtpjefkdclnmlfaaGreatDeadLive
import Derived.Test.YtpjefkdclnmlfaaGreatCoreYa
namespace Go.Proofs.YtpjefkdclnmlfaaGreat
open Go Go.Fk Go.Proofs.Tryz
theorem mixed:Tryz.prog.follows .mixedOrders=true:=by kernel_rfl
theorem tf3:TF Tryz.prog 3 1 false (.int .i64 0) 8:=t_w
theorem tf5:TF Tryz.prog 5 1 false (.int .u8 0) 1:=t_w
theorem tf9:TF Tryz.prog 9 1 false (.string ⟨#[]⟩) 16:=t_w
theorem tf22:TF Tryz.prog 22 1 false (.slice none 0 0) 24:=t_w
theorem tf31:TF Tryz.prog 31 1 false (.slice none 0 0) 24:=t_w
theorem tf33:TF Tryz.prog 33 2 true (.agg #[.slice none 0 0,.slice none 0 0]) 48:=t_w
theorem tf34:TF Tryz.prog 34 1 false (.slice none 0 0) 24:=t_w
theorem tf36:TF Tryz.prog 36 3 true (.agg #[.slice none 0 0,.slice none 0 0,.slice none 0 0]) 72:=t_w
theorem tf43:TF Tryz.prog 43 1 false (.slice none 0 0) 24:=t_w
theorem tf44:TF Tryz.prog 44 1 false (.slice none 0 0) 24:=t_w
theorem tf46:TF Tryz.prog 46 2 true (.agg #[.slice none 0 0,.slice none 0 0]) 48:=t_w
theorem tf61:TF Tryz.prog 61 1 false (.slice none 0 0) 24:=t_w
theorem tf69:TF Tryz.prog 69 1 false (.slice none 0 0) 24:=t_w
theorem tf71:TF Tryz.prog 71 1 false (.slice none 0 0) 24:=t_w
theorem tf73:TF Tryz.prog 73 3 true (.agg #[.slice none 0 0,.slice none 0 0,.slice none 0 0]) 72:=t_w
theorem tf74:TF Tryz.prog 74 1 false (.slice none 0 0) 24:=t_w
theorem tf75:TF Tryz.prog 75 1 false (.slice none 0 0) 24:=t_w
theorem tf77:TF Tryz.prog 77 3 true (.agg #[.int .i64 0,.slice none 0 0,.slice none 0 0]) 56:=t_w
theorem tf108:TF Tryz.prog 108 2 true (.agg #[.string ⟨#[]⟩,.string ⟨#[]⟩]) 32:=t_w
theorem tf112:TF Tryz.prog 112 2 true (.agg #[.string ⟨#[]⟩,.int .i64 0]) 24:=t_w
theorem tf116:TF Tryz.prog 116 3 true (.agg #[.string ⟨#[]⟩,.string ⟨#[]⟩,.slice none 0 0]) 56:=t_w
theorem tf134:TF Tryz.prog 134 2 true (.agg #[.int .i64 0,.slice none 0 0]) 32:=t_w
theorem tf142:TF Tryz.prog 142 2 true (.agg #[.string ⟨#[]⟩,.int .i64 0]) 24:=t_w
theorem tf159:TF Tryz.prog 159 2 true (.agg #[.slice none 0 0,.string ⟨#[]⟩]) 40:=t_w
theorem tf183:TF Tryz.prog 183 4 true (.agg #[.string ⟨#[]⟩,.int .i64 0,.int .i64 0,.int .i64 0]) 40:=t_w
theorem tf208:TF Tryz.prog 208 2 true (.agg #[.slice none 0 0,.int .i64 0]) 32:=t_w
theorem ff33_0:FF Tryz.prog 33 0 0:=f_w
theorem ff33_1:FF Tryz.prog 33 1 1:=f_w
theorem ff36_0:FF Tryz.prog 36 0 0:=f_w
theorem ff36_1:FF Tryz.prog 36 1 2:=f_w
theorem ff46_0:FF Tryz.prog 46 0 0:=f_w
theorem ff46_1:FF Tryz.prog 46 1 1:=f_w
theorem ff73_0:FF Tryz.prog 73 0 0:=f_w
theorem ff73_1:FF Tryz.prog 73 1 2:=f_w
theorem ff77_0:FF Tryz.prog 77 0 0:=f_w
theorem ff77_1:FF Tryz.prog 77 1 1:=f_w
theorem ff77_2:FF Tryz.prog 77 2 2:=f_w
theorem ff108_0:FF Tryz.prog 108 0 0:=f_w
theorem ff108_1:FF Tryz.prog 108 1 1:=f_w
theorem ff112_0:FF Tryz.prog 112 0 0:=f_w
theorem ff112_1:FF Tryz.prog 112 1 1:=f_w
theorem ff116_0:FF Tryz.prog 116 0 0:=f_w
theorem ff116_1:FF Tryz.prog 116 1 1:=f_w
theorem ff116_2:FF Tryz.prog 116 2 2:=f_w
theorem ff134_0:FF Tryz.prog 134 0 0:=f_w
theorem ff134_1:FF Tryz.prog 134 1 1:=f_w
theorem ff142_0:FF Tryz.prog 142 0 0:=f_w
theorem ff142_1:FF Tryz.prog 142 1 1:=f_w
theorem ff159_0:FF Tryz.prog 159 0 0:=f_w
theorem ff159_1:FF Tryz.prog 159 1 1:=f_w
theorem ff183_0:FF Tryz.prog 183 0 0:=f_w
theorem ff183_1:FF Tryz.prog 183 1 1:=f_w
theorem ff183_3:FF Tryz.prog 183 3 3:=f_w
theorem ff208_0:FF Tryz.prog 208 0 0:=f_w
theorem ff208_1:FF Tryz.prog 208 1 1:=f_w
theorem fg46_1:FG Tryz.prog 46 1 44 1:=by unfold FG;kernel_rfl
theorem fg77_0:FG Tryz.prog 77 0 3 0:=by unfold FG;kernel_rfl
theorem sp33:SPlaces Tryz.prog 33=some [(0,1),(1,1)]:=by kernel_rfl
theorem sp36:SPlaces Tryz.prog 36=some [(0,2),(2,1)]:=by kernel_rfl
theorem sp46:SPlaces Tryz.prog 46=some [(0,1),(1,1)]:=by kernel_rfl
theorem sp73:SPlaces Tryz.prog 73=some [(0,2),(2,1)]:=by kernel_rfl
theorem sp77:SPlaces Tryz.prog 77=some [(0,1),(1,1),(2,1)]:=by kernel_rfl
theorem sp108:SPlaces Tryz.prog 108=some [(0,1),(1,1)]:=by kernel_rfl
theorem sp112:SPlaces Tryz.prog 112=some [(0,1),(1,1)]:=by kernel_rfl
theorem sp116:SPlaces Tryz.prog 116=some [(0,1),(1,1),(2,1)]:=by kernel_rfl
theorem sp134:SPlaces Tryz.prog 134=some [(0,1),(1,1)]:=by kernel_rfl
theorem sp142:SPlaces Tryz.prog 142=some [(0,1),(1,1)]:=by kernel_rfl
theorem sp159:SPlaces Tryz.prog 159=some [(0,1),(1,1)]:=by kernel_rfl
theorem sp183:SPlaces Tryz.prog 183=some [(0,1),(1,1),(2,1),(3,1)]:=by kernel_rfl
theorem sp208:SPlaces Tryz.prog 208=some [(0,1),(1,1)]:=by kernel_rfl
theorem eqg108:Tryz.prog.eqGuardType Tryz.prog.depth 108=false:=by kernel_rfl
theorem fo108:(Tryz.prog.fieldsOf 108).toList=[⟨ "Name",9,0,false,"","",0⟩,⟨ "Text",9,1,false,"","",16⟩]:=by kernel_rfl
theorem eqs108 (a0:Str)(a1:Str)(b0:Str)(b1:Str)(w:World):(Op.equalIn 10000 108 (.agg #[sv a0,sv a1]) (.agg #[sv b0,sv b1])).run Tryz.prog w= .ok ((a0==b0)&&((a1==b1))) w:=by
 have h:(Op.eqFields 9999 #[sv a0,sv a1] #[sv b0,sv b1] (Tryz.prog.fieldsOf 108).toList).run Tryz.prog w= .ok ((a0==b0)&&((a1==b1)&&(true))) w:=by
  rw [fo108]
  exact(eqF_cons (by decide) (part_one w Tryz.underlying9 rfl rfl) (part_one w Tryz.underlying9 rfl rfl) (eqIn_s 9998 w a0 b0 Tryz.underlying9) (eqF_cons (by decide) (part_one w Tryz.underlying9 rfl rfl) (part_one w Tryz.underlying9 rfl rfl) (eqIn_s 9998 w a1 b1 Tryz.underlying9) (eqF_nil 9999 _ _ w)))
 rw [run_equalIn_struct w 9999 108 _ _ (by kernel_rfl) (by kernel_rfl),h]
 simp only [Bool.and_true]
theorem eqg142:Tryz.prog.eqGuardType Tryz.prog.depth 142=false:=by kernel_rfl
theorem fo142:(Tryz.prog.fieldsOf 142).toList=[⟨ "Name",9,0,false,"","",0⟩,⟨ "Num",3,1,false,"","",16⟩]:=by kernel_rfl
theorem eqs142 (a0:Str)(a1:Int)(b0:Str)(b1:Int)(w:World):(Op.equalIn 10000 142 (.agg #[sv a0,.int .i64 a1]) (.agg #[sv b0,.int .i64 b1])).run Tryz.prog w= .ok ((a0==b0)&&((a1==b1))) w:=by
 have h:(Op.eqFields 9999 #[sv a0,.int .i64 a1] #[sv b0,.int .i64 b1] (Tryz.prog.fieldsOf 142).toList).run Tryz.prog w= .ok ((a0==b0)&&((a1==b1)&&(true))) w:=by
  rw [fo142]
  exact(eqF_cons (by decide) (part_one w Tryz.underlying9 rfl rfl) (part_one w Tryz.underlying9 rfl rfl) (eqIn_s 9998 w a0 b0 Tryz.underlying9) (eqF_cons (by decide) (part_one w Tryz.underlying3 rfl rfl) (part_one w Tryz.underlying3 rfl rfl) (eqIn_i 9998 w a1 b1 Tryz.underlying3) (eqF_nil 9999 _ _ w)))
 rw [run_equalIn_struct w 9999 142 _ _ (by kernel_rfl) (by kernel_rfl),h]
 simp only [Bool.and_true]
theorem sortLay179:Go.Proofs.Lays.n189 Tryz.prog Go.Proofs.Tryz.sortLay179_ren:=Go.Proofs.Tryz.sortLay179
theorem sortLay75:SlLaysF0.n6 prog Go.Proofs.Tryz.sortLay75_ren:=Go.Proofs.Tryz.sortLay75
theorem sortNone75 (p:Option Addr)(cap:Nat)(fv:Value)(w:World):Calls prog (Go.Proofs.Tryz.sortLay75_ren.f 6) #[.slice p 0 cap,fv] w fun e w'=>e= .returned (.tuple #[])∧w'=w:=Go.Proofs.AnyF.slices_SortFunc_none sortLay75 p cap fv w
theorem sortLay129:SlLaysF0.n6 prog Go.Proofs.Tryz.sortLay129_ren:=Go.Proofs.Tryz.sortLay129
theorem sortNone129 (p:Option Addr)(cap:Nat)(fv:Value)(w:World):Calls prog (Go.Proofs.Tryz.sortLay129_ren.f 6) #[.slice p 0 cap,fv] w fun e w'=>e= .returned (.tuple #[])∧w'=w:=Go.Proofs.AnyF.slices_SortFunc_none sortLay129 p cap fv w
theorem co12:CallOk prog 12:=c_w func12
theorem co14:CallOk prog 14:=c_w func14
theorem co21:CallOk prog 21:=c_w func21
theorem co37:CallOk prog 37:=c_w func37
theorem co41:CallOk prog 41:=c_w func41
theorem co43:CallOk prog 43:=c_w func43
theorem co44:CallOk prog 44:=c_w func44
theorem co45:CallOk prog 45:=c_w func45
theorem co48:CallOk prog 48:=c_w func48
theorem co49:CallOk prog 49:=c_w func49
theorem co52:CallOk prog 52:=c_w func52
theorem co53:CallOk prog 53:=c_w func53
theorem co54:CallOk prog 54:=c_w func54
theorem co55:CallOk prog 55:=c_w func55
theorem co57:CallOk prog 57:=c_w func57
theorem co59:CallOk prog 59:=c_w func59
theorem co60:CallOk prog 60:=c_w func60
theorem co61:CallOk prog 61:=c_w func61
theorem co66:CallOk prog 66:=c_w func66
theorem co67:CallOk prog 67:=c_w func67
theorem co68:CallOk prog 68:=c_w func68
theorem co72:CallOk prog 72:=c_w func72
theorem co73:CallOk prog 73:=c_w func73
theorem co74:CallOk prog 74:=c_w func74
theorem co75:CallOk prog 75:=c_w func75
theorem co77:CallOk prog 77:=c_w func77
theorem co78:CallOk prog 78:=c_w func78
theorem co90:CallOk prog 90:=c_w func90
theorem co91:CallOk prog 91:=c_w func91
theorem co94:CallOk prog 94:=c_w func94
theorem co99:CallOk prog 99:=c_w func99
theorem co103:CallOk prog 103:=c_w func103
theorem co104:CallOk prog 104:=c_w func104
theorem co105:CallOk prog 105:=c_w func105
theorem co106:CallOk prog 106:=c_w func106
theorem co107:CallOk prog 107:=c_w func107
theorem co108:CallOk prog 108:=c_w func108
theorem co109:CallOk prog 109:=c_w func109
theorem co110:CallOk prog 110:=c_w func110
theorem co111:CallOk prog 111:=c_w func111
theorem co112:CallOk prog 112:=c_w func112
theorem co113:CallOk prog 113:=c_w func113
theorem co114:CallOk prog 114:=c_w func114
theorem co115:CallOk prog 115:=c_w func115
theorem co116:CallOk prog 116:=c_w func116
theorem co117:CallOk prog 117:=c_w func117
theorem co119:CallOk prog 119:=c_w func119
theorem co120:CallOk prog 120:=c_w func120
theorem co122:CallOk prog 122:=c_w func122
theorem co123:CallOk prog 123:=c_w func123
theorem co124:CallOk prog 124:=c_w func124
theorem co125:CallOk prog 125:=c_w func125
theorem co126:CallOk prog 126:=c_w func126
theorem co127:CallOk prog 127:=c_w func127
theorem co128:CallOk prog 128:=c_w func128
theorem co129:CallOk prog 129:=c_w func129
theorem co131:CallOk prog 131:=c_w func131
theorem co136:CallOk prog 136:=c_w func136
theorem co137:CallOk prog 137:=c_w func137
theorem co138:CallOk prog 138:=c_w func138
theorem co139:CallOk prog 139:=c_w func139
theorem co140:CallOk prog 140:=c_w func140
theorem co141:CallOk prog 141:=c_w func141
theorem co142:CallOk prog 142:=c_w func142
theorem co143:CallOk prog 143:=c_w func143
theorem co147:CallOk prog 147:=c_w func147
theorem co148:CallOk prog 148:=c_w func148
theorem co149:CallOk prog 149:=c_w func149
theorem co150:CallOk prog 150:=c_w func150
theorem co151:CallOk prog 151:=c_w func151
theorem co152:CallOk prog 152:=c_w func152
theorem co155:CallOk prog 155:=c_w func155
theorem co162:CallOk prog 162:=c_w func162
theorem co164:CallOk prog 164:=c_w func164
theorem co165:CallOk prog 165:=c_w func165
theorem co167:CallOk prog 167:=c_w func167
theorem co168:CallOk prog 168:=c_w func168
theorem co169:CallOk prog 169:=c_w func169
theorem co170:CallOk prog 170:=c_w func170
theorem co171:CallOk prog 171:=c_w func171
theorem co172:CallOk prog 172:=c_w func172
theorem co173:CallOk prog 173:=c_w func173
theorem co174:CallOk prog 174:=c_w func174
theorem co175:CallOk prog 175:=c_w func175
theorem co176:CallOk prog 176:=c_w func176
theorem co177:CallOk prog 177:=c_w func177
theorem co178:CallOk prog 178:=c_w func178
theorem co179:CallOk prog 179:=c_w func179
theorem co180:CallOk prog 180:=c_w func180
theorem co181:CallOk prog 181:=c_w func181
theorem co182:CallOk prog 182:=c_w func182
theorem co185:CallOk prog 185:=c_w func185
theorem co186:CallOk prog 186:=c_w func186
theorem co187:CallOk prog 187:=c_w func187
theorem co189:CallOk prog 189:=c_w func189
theorem co192:CallOk prog 192:=c_w func192
theorem co193:CallOk prog 193:=c_w func193
theorem co194:CallOk prog 194:=c_w func194
theorem co195:CallOk prog 195:=c_w func195
theorem co196:CallOk prog 196:=c_w func196
theorem co197:CallOk prog 197:=c_w func197
theorem co198:CallOk prog 198:=c_w func198
theorem co201:CallOk prog 201:=c_w func201
theorem co215:CallOk prog 215:=c_w func215
theorem co217:CallOk prog 217:=c_w func217
theorem co218:CallOk prog 218:=c_w func218
theorem co219:CallOk prog 219:=c_w func219
theorem co220:CallOk prog 220:=c_w func220
theorem co221:CallOk prog 221:=c_w func221
theorem co222:CallOk prog 222:=c_w func222
theorem co223:CallOk prog 223:=c_w func223
theorem co225:CallOk prog 225:=c_w func225
theorem co226:CallOk prog 226:=c_w func226
theorem co227:CallOk prog 227:=c_w func227
theorem co236:CallOk prog 236:=c_w func236
theorem co237:CallOk prog 237:=c_w func237
theorem co238:CallOk prog 238:=c_w func238
theorem co246:CallOk prog 246:=c_w func246
theorem co256:CallOk prog 256:=c_w func256
theorem co257:CallOk prog 257:=c_w func257
theorem co261:CallOk prog 261:=c_w func261
theorem co262:CallOk prog 262:=c_w func262
theorem co267:CallOk prog 267:=c_w func267
end Go.Proofs.YtpjefkdclnmlfaaGreat
