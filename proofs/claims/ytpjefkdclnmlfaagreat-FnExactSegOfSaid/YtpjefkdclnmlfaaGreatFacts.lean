/-
  Closed facts on the program's tables. Printed by gen.py.
-/
import Derived.Test.YtpjefkdclnmlfaaGreatModel
import Derived.Test.YtpjefkdclnmlfaaGreatChecked
import Derived.KernelRfl
import Derived.Test.YtpjefkdclnmlfaaGreatCoreSQ
import Derived.Shelf.SlSortCmp.NoneTotal
import Derived.Test.YtpjefkdclnmlfaaGreatSortLay75
import Derived.Test.YtpjefkdclnmlfaaGreatSegI
import Derived.Test.YtpjefkdclnmlfaaGreatOwnDP
import Derived.Test.YtpjefkdclnmlfaaGreatOwnE
import Derived.Test.YtpjefkdclnmlfaaGreatCoreMm
import Derived.Test.YtpjefkdclnmlfaaGreatCoreYa
namespace Go.Proofs.YtpjefkdclnmlfaaGreat
open Go Go.Fk Tryz
theorem mixed:prog.follows .mixedOrders=true:=by kernel_rfl
theorem tf3:TF prog 3 1 false (.int .i64 0) 8:=t_w
theorem tf5:TF prog 5 1 false (.int .u8 0) 1:=t_w
theorem tf9:TF prog 9 1 false (.string ⟨#[]⟩) 16:=t_w
theorem tf22:TF prog 22 1 false (.slice none 0 0) 24:=t_w
theorem tf23:TF prog 23 1 false (.slice none 0 0) 24:=t_w
theorem tf25:TF prog 25 2 true (.agg #[.slice none 0 0,.slice none 0 0]) 48:=t_w
theorem tf31:TF prog 31 1 false (.slice none 0 0) 24:=t_w
theorem tf33:TF prog 33 2 true (.agg #[.slice none 0 0,.slice none 0 0]) 48:=t_w
theorem tf43:TF prog 43 1 false (.slice none 0 0) 24:=t_w
theorem tf44:TF prog 44 1 false (.slice none 0 0) 24:=t_w
theorem tf46:TF prog 46 2 true (.agg #[.slice none 0 0,.slice none 0 0]) 48:=t_w
theorem tf61:TF prog 61 1 false (.slice none 0 0) 24:=t_w
theorem tf71:TF prog 71 1 false (.slice none 0 0) 24:=t_w
theorem tf74:TF prog 74 1 false (.slice none 0 0) 24:=t_w
theorem tf75:TF prog 75 1 false (.slice none 0 0) 24:=t_w
theorem tf77:TF prog 77 3 true (.agg #[.int .i64 0,.slice none 0 0,.slice none 0 0]) 56:=t_w
theorem tf99:TF prog 99 1 false (.slice none 0 0) 24:=t_w
theorem tf100:TF prog 100 1 false (.slice none 0 0) 24:=t_w
theorem tf102:TF prog 102 3 true (.agg #[.int .i64 0,.slice none 0 0,.slice none 0 0]) 56:=t_w
theorem tf108:TF prog 108 2 true (.agg #[.string ⟨#[]⟩,.string ⟨#[]⟩]) 32:=t_w
theorem tf112:TF prog 112 2 true (.agg #[.string ⟨#[]⟩,.int .i64 0]) 24:=t_w
theorem tf116:TF prog 116 3 true (.agg #[.string ⟨#[]⟩,.string ⟨#[]⟩,.slice none 0 0]) 56:=t_w
theorem tf134:TF prog 134 2 true (.agg #[.int .i64 0,.slice none 0 0]) 32:=t_w
theorem tf142:TF prog 142 2 true (.agg #[.string ⟨#[]⟩,.int .i64 0]) 24:=t_w
theorem tf159:TF prog 159 2 true (.agg #[.slice none 0 0,.string ⟨#[]⟩]) 40:=t_w
theorem tf170:TF prog 170 2 true (.agg #[.slice none 0 0,.string ⟨#[]⟩]) 40:=t_w
theorem tf183:TF prog 183 4 true (.agg #[.string ⟨#[]⟩,.int .i64 0,.int .i64 0,.int .i64 0]) 40:=t_w
theorem tf223:TF prog 223 2 true (.agg #[.string ⟨#[]⟩,.string ⟨#[]⟩]) 32:=t_w
theorem tf225:TF prog 225 2 true (.agg #[.string ⟨#[]⟩,.int .i64 0]) 24:=t_w
theorem ff25_0:FF prog 25 0 0:=f_w
theorem ff25_1:FF prog 25 1 1:=f_w
theorem ff33_0:FF prog 33 0 0:=f_w
theorem ff33_1:FF prog 33 1 1:=f_w
theorem ff46_0:FF prog 46 0 0:=f_w
theorem ff46_1:FF prog 46 1 1:=f_w
theorem ff77_0:FF prog 77 0 0:=f_w
theorem ff77_1:FF prog 77 1 1:=f_w
theorem ff77_2:FF prog 77 2 2:=f_w
theorem ff102_0:FF prog 102 0 0:=f_w
theorem ff102_1:FF prog 102 1 1:=f_w
theorem ff102_2:FF prog 102 2 2:=f_w
theorem ff108_0:FF prog 108 0 0:=f_w
theorem ff108_1:FF prog 108 1 1:=f_w
theorem ff112_0:FF prog 112 0 0:=f_w
theorem ff112_1:FF prog 112 1 1:=f_w
theorem ff116_0:FF prog 116 0 0:=f_w
theorem ff116_1:FF prog 116 1 1:=f_w
theorem ff116_2:FF prog 116 2 2:=f_w
theorem ff134_0:FF prog 134 0 0:=f_w
theorem ff134_1:FF prog 134 1 1:=f_w
theorem ff142_0:FF prog 142 0 0:=f_w
theorem ff142_1:FF prog 142 1 1:=f_w
theorem ff159_0:FF prog 159 0 0:=f_w
theorem ff159_1:FF prog 159 1 1:=f_w
theorem ff170_0:FF prog 170 0 0:=f_w
theorem ff170_1:FF prog 170 1 1:=f_w
theorem ff183_0:FF prog 183 0 0:=f_w
theorem ff183_1:FF prog 183 1 1:=f_w
theorem ff183_3:FF prog 183 3 3:=f_w
theorem ff223_0:FF prog 223 0 0:=f_w
theorem ff223_1:FF prog 223 1 1:=f_w
theorem ff225_0:FF prog 225 0 0:=f_w
theorem ff225_1:FF prog 225 1 1:=f_w
theorem sp46:SPlaces prog 46=some [(0,1),(1,1)]:=by kernel_rfl
theorem sp77:SPlaces prog 77=some [(0,1),(1,1),(2,1)]:=by kernel_rfl
theorem sp112:SPlaces prog 112=some [(0,1),(1,1)]:=by kernel_rfl
theorem sp116:SPlaces prog 116=some [(0,1),(1,1),(2,1)]:=by kernel_rfl
theorem sp134:SPlaces prog 134=some [(0,1),(1,1)]:=by kernel_rfl
theorem sp183:SPlaces prog 183=some [(0,1),(1,1),(2,1),(3,1)]:=by kernel_rfl
theorem sortLay75:SlLaysF0.n6 prog Tryz.sortLay75_ren:=Tryz.sortLay75
theorem sortNone75 (p:Option Addr)(cap:Nat)(fv:Value)(w:World):Calls prog (Tryz.sortLay75_ren.f 6) #[.slice p 0 cap,fv] w fun e w'=>e= .returned (.tuple #[])∧w'=w:=Go.Proofs.AnyF.slices_SortFunc_none sortLay75 p cap fv w
theorem co16:CallOk prog 16:=c_w func16
theorem co17:CallOk prog 17:=c_w func17
theorem co18:CallOk prog 18:=c_w func18
theorem co19:CallOk prog 19:=c_w func19
theorem co20:CallOk prog 20:=c_w func20
theorem co21:CallOk prog 21:=c_w func21
theorem co22:CallOk prog 22:=c_w func22
theorem co23:CallOk prog 23:=c_w func23
theorem co24:CallOk prog 24:=c_w func24
theorem co25:CallOk prog 25:=c_w func25
theorem co26:CallOk prog 26:=c_w func26
theorem co27:CallOk prog 27:=c_w func27
theorem co28:CallOk prog 28:=c_w func28
theorem co33:CallOk prog 33:=c_w func33
theorem co34:CallOk prog 34:=c_w func34
theorem co35:CallOk prog 35:=c_w func35
theorem co39:CallOk prog 39:=c_w func39
theorem co45:CallOk prog 45:=c_w func45
theorem co59:CallOk prog 59:=c_w func59
theorem co63:CallOk prog 63:=c_w func63
theorem co64:CallOk prog 64:=c_w func64
theorem co65:CallOk prog 65:=c_w func65
theorem co66:CallOk prog 66:=c_w func66
theorem co67:CallOk prog 67:=c_w func67
theorem co68:CallOk prog 68:=c_w func68
theorem co69:CallOk prog 69:=c_w func69
theorem co70:CallOk prog 70:=c_w func70
theorem co71:CallOk prog 71:=c_w func71
theorem co72:CallOk prog 72:=c_w func72
theorem co73:CallOk prog 73:=c_w func73
theorem co74:CallOk prog 74:=c_w func74
theorem co75:CallOk prog 75:=c_w func75
theorem co77:CallOk prog 77:=c_w func77
theorem co78:CallOk prog 78:=c_w func78
theorem co79:CallOk prog 79:=c_w func79
theorem co80:CallOk prog 80:=c_w func80
theorem co81:CallOk prog 81:=c_w func81
theorem co82:CallOk prog 82:=c_w func82
theorem co83:CallOk prog 83:=c_w func83
theorem co84:CallOk prog 84:=c_w func84
theorem co85:CallOk prog 85:=c_w func85
theorem co86:CallOk prog 86:=c_w func86
theorem co87:CallOk prog 87:=c_w func87
theorem co88:CallOk prog 88:=c_w func88
theorem co96:CallOk prog 96:=c_w func96
theorem co97:CallOk prog 97:=c_w func97
theorem co98:CallOk prog 98:=c_w func98
theorem co101:CallOk prog 101:=c_w func101
theorem co102:CallOk prog 102:=c_w func102
theorem co105:CallOk prog 105:=c_w func105
theorem co108:CallOk prog 108:=c_w func108
theorem co109:CallOk prog 109:=c_w func109
theorem co122:CallOk prog 122:=c_w func122
theorem co123:CallOk prog 123:=c_w func123
theorem co124:CallOk prog 124:=c_w func124
theorem co125:CallOk prog 125:=c_w func125
theorem co133:CallOk prog 133:=c_w func133
theorem co134:CallOk prog 134:=c_w func134
theorem co135:CallOk prog 135:=c_w func135
theorem co136:CallOk prog 136:=c_w func136
theorem co137:CallOk prog 137:=c_w func137
theorem co138:CallOk prog 138:=c_w func138
theorem co139:CallOk prog 139:=c_w func139
theorem co140:CallOk prog 140:=c_w func140
theorem co141:CallOk prog 141:=c_w func141
theorem co142:CallOk prog 142:=c_w func142
theorem co143:CallOk prog 143:=c_w func143
theorem co144:CallOk prog 144:=c_w func144
theorem co145:CallOk prog 145:=c_w func145
theorem co146:CallOk prog 146:=c_w func146
theorem co147:CallOk prog 147:=c_w func147
theorem co148:CallOk prog 148:=c_w func148
theorem co149:CallOk prog 149:=c_w func149
theorem co150:CallOk prog 150:=c_w func150
theorem co151:CallOk prog 151:=c_w func151
theorem co152:CallOk prog 152:=c_w func152
theorem co155:CallOk prog 155:=c_w func155
theorem co156:CallOk prog 156:=c_w func156
theorem co157:CallOk prog 157:=c_w func157
theorem co158:CallOk prog 158:=c_w func158
theorem co159:CallOk prog 159:=c_w func159
theorem co160:CallOk prog 160:=c_w func160
theorem co166:CallOk prog 166:=c_w func166
theorem co185:CallOk prog 185:=c_w func185
theorem co186:CallOk prog 186:=c_w func186
theorem co187:CallOk prog 187:=c_w func187
theorem co190:CallOk prog 190:=c_w func190
theorem co191:CallOk prog 191:=c_w func191
theorem co192:CallOk prog 192:=c_w func192
theorem co193:CallOk prog 193:=c_w func193
theorem co194:CallOk prog 194:=c_w func194
theorem co195:CallOk prog 195:=c_w func195
theorem co196:CallOk prog 196:=c_w func196
theorem co197:CallOk prog 197:=c_w func197
theorem co198:CallOk prog 198:=c_w func198
theorem co199:CallOk prog 199:=c_w func199
theorem co200:CallOk prog 200:=c_w func200
theorem co201:CallOk prog 201:=c_w func201
theorem co212:CallOk prog 212:=c_w func212
theorem co213:CallOk prog 213:=c_w func213
theorem co227:CallOk prog 227:=c_w func227
theorem co236:CallOk prog 236:=c_w func236
theorem co237:CallOk prog 237:=c_w func237
theorem co238:CallOk prog 238:=c_w func238
theorem co261:CallOk prog 261:=c_w func261
theorem co262:CallOk prog 262:=c_w func262
end Go.Proofs.YtpjefkdclnmlfaaGreat
