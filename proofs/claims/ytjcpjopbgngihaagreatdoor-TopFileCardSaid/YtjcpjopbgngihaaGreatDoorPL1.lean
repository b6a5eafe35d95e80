/- The shelf's contracts at this program, as the kit's lay-plain tool wrote them, cut by a program of mine; each theorem states its own conditions. -/
import Derived.Shelf.Strings.Trim
import Derived.Shelf.Small.Wraps
import Derived.Shelf.Utf8.AppendRune
import Derived.Shelf.Utf8.AppendRunePlain
import Derived.Shelf.Utf8.RuneCount
import Derived.Shelf.Strings.Shaped
import Derived.Shelf.GgClosure.StringsRunes
import Derived.Shelf.Strings.SplitShaped
import Derived.Shelf.Strings.Runes
import Derived.Shelf.Strings.AsciiSet
import Derived.Shelf.Strings.Explode
import Derived.Shelf.Strings.CaseAny
import Derived.Shelf.Strings.FuncGrows
import Derived.Shelf.Strings.MapGrows
import Derived.Shelf.Slices.SearchI
import Derived.Shelf.Bytes.SlSearch0
import Derived.Shelf.Bytes.SlClone
import Derived.Shelf.SlicesE.Clone
import Derived.Shelf.SlicesE.IndexFunc
import Derived.Shelf.Bytes.SlEqualAll
import Derived.Test.YtjcpjopbgngihaaGreatDoorProg
namespace Go.Proofs
open Go.RowKit
theorem nL {n:Nat}:n<=n:=Nat.le_refl n
theorem dT {p:Prop} [Decidable p] (h:p):decide p=true:=decide_eq_true h
theorem dF {p:Prop} [Decidable p] (h:¬p):decide p=false:=decide_eq_false h
theorem oT {p:Prop} [Decidable p] (h:decide p=true):p:=of_decide_eq_true h
theorem br {b:Nat} {w:World}:Below b w w:=Below.refl b w
theorem wI {x y:Int} (h : -9223372036854775808<=x/\x<=9223372036854775807/\x=y):IntKind.i64.wrap x=y:=by rw[IntKind.wrap_i64];omega
theorem fs {P:Program} {i:Nat} {fn:Func} {Q:String->Prop} {F:String->Func} (h:P.funcs[i]?=some fn) (h1:Q fn.name:=by decide) (h2:fn=F fn.name:=by kernel_rfl):∃n,Q n/\P.funcs[i]?=some (F n):=⟨_,h1,h.trans (congrArg some h2)⟩
theorem ff {P:Program} {i:Nat} {fn fn':Func} (h:P.funcs[i]?=some fn) (h2:fn=fn':=by kernel_rfl):P.funcs[i]?=some fn':=h.trans (congrArg some h2)
end Go.Proofs
section
namespace Go.Proofs
open Tryz
open Go.Shelf
def Tryz.lays169_ren:Go.Shelf.Ren:=⟨fun | 169=>94 | n=>n,fun | 70=>152 | 9=>9 | 0=>0 | 72=>154 | 37=>22 | 127=>192 | 3=>3 | 5=>5 | n=>n,fun | n=>n⟩
theorem Tryz.lays169:Go.Proofs.Lays.n169 Tryz.prog Tryz.lays169_ren:={
 mixed:=by kernel_rfl
 f169:=ff func94
 t0:=underlying0
 a0:=isAgg0
 z0:=sizeOf0
 v0:=zeroValue0
 t3:=underlying3
 a3:=isAgg3
 z3:=sizeOf3
 v3:=zeroValue3
 t9:=underlying9
 a9:=isAgg9
 z9:=sizeOf9
 v9:=zeroValue9
 t37:=underlying22
 a37:=isAgg22
 z37:=sizeOf22
 v37:=zeroValue22
 t70:=underlying152
 a70:=isAgg152
 z70:=sizeOf152
 v70:=zeroValue152
 t72:=underlying154
 a72:=isAgg154
 z72:=sizeOf154
 v72:=zeroValue154
 t127:=underlying192
 a127:=isAgg192
 z127:=sizeOf192
 v127:=zeroValue192 }
theorem Tryz.Builder_Extra_169:Builder.Extra Tryz.prog Tryz.lays169_ren:={
 sizeBuilder:=by kernel_rfl
 liesBuilder:=by kernel_rfl
 t5:=underlying5
 a5:=isAgg5
 z5:=sizeOf5
 v5:=zeroValue5
 infoByte:=by kernel_rfl
 cellsByte:=by kernel_rfl
 sizeByte:=by kernel_rfl
 neB5:=by decide }
open Go.RowKit in
theorem Tryz.Builder_String_any (B b:Nat) (l:List UInt8) (w:World) (h:Lib.IsBuilder 154 5 B b (Lib.byteCells l) w) (hBw:B<=w.heap.size) :
    Calls Tryz.prog 94 #[.pointer (some ⟨b,0,none⟩)] w fun e w'=>e=.returned (.string ⟨l.toArray⟩)/\Below B w w':=Any.Builder_String_any Tryz.lays169 Tryz.Builder_Extra_169 B b l w h hBw
def Tryz.lays159_ren:Go.Shelf.Ren:=⟨fun | 159=>190 | 165=>223 | 166=>93 | 167=>128 | 169=>94 | 230=>224 | 204=>225 | 240=>133 | 241=>238 | 197=>186 | 118=>234 | 168=>220 | 270=>239 | 262=>240 | 276=>177 | 277=>249 | 260=>217 | 242=>236 | 313=>250 | 278=>248 | 274=>253 | 275=>254 | n=>n,fun | 9=>9 | 4=>4 | 3=>3 | 5=>5 | 72=>154 | 0=>0 | 76=>157 | 75=>156 | 107=>261 | 70=>152 | 20=>20 | 37=>22 | 127=>192 | 21=>21 | 105=>233 | 164=>223 | 162=>277 | 203=>275 | 119=>195 | 46=>71 | 139=>198 | 138=>197 | 51=>165 | 160=>279 | 208=>285 | 206=>283 | 80=>37 | n=>n,fun | 13=>3 | 3=>0 | 4=>1 | n=>n⟩
theorem Tryz.lays159:Go.Proofs.Lays.n159 Tryz.prog Tryz.lays159_ren:={
 mixed:=by kernel_rfl
 f118:=ff func234
 f159:=ff func190
 f165:=ff func223
 f166:=ff func93
 f167:=ff func128
 f168:=ff func220
 f169:=ff func94
 f197:=ff func186
 f204:=ff func225
 f230:=ff func224
 f240:=ff func133
 f241:=ff func238
 f242:=ff func236
 f260:=ff func217
 f262:=ff func240
 f270:=ff func239
 f274:=ff func253
 f275:=ff func254
 f276:=ff func177
 f277:=ff func249
 f278:=ff func248
 f313:=ff func250
 t0:=underlying0
 a0:=isAgg0
 z0:=sizeOf0
 v0:=zeroValue0
 t3:=underlying3
 a3:=isAgg3
 z3:=sizeOf3
 v3:=zeroValue3
 t4:=underlying4
 a4:=isAgg4
 z4:=sizeOf4
 v4:=zeroValue4
 t5:=underlying5
 a5:=isAgg5
 z5:=sizeOf5
 v5:=zeroValue5
 t9:=underlying9
 a9:=isAgg9
 z9:=sizeOf9
 v9:=zeroValue9
 t20:=underlying20
 a20:=isAgg20
 z20:=sizeOf20
 v20:=zeroValue20
 t21:=underlying21
 a21:=isAgg21
 z21:=sizeOf21
 v21:=zeroValue21
 t37:=underlying22
 a37:=isAgg22
 z37:=sizeOf22
 v37:=zeroValue22
 t46:=underlying71
 a46:=isAgg71
 z46:=sizeOf71
 v46:=zeroValue71
 t51:=underlying165
 a51:=isAgg165
 z51:=sizeOf165
 v51:=zeroValue165
 t70:=underlying152
 a70:=isAgg152
 z70:=sizeOf152
 v70:=zeroValue152
 t72:=underlying154
 a72:=isAgg154
 z72:=sizeOf154
 v72:=zeroValue154
 t75:=underlying156
 a75:=isAgg156
 z75:=sizeOf156
 v75:=zeroValue156
 t76:=underlying157
 a76:=isAgg157
 z76:=sizeOf157
 v76:=zeroValue157
 t105:=underlying233
 a105:=isAgg233
 z105:=sizeOf233
 v105:=zeroValue233
 t107:=underlying261
 a107:=isAgg261
 z107:=sizeOf261
 v107:=zeroValue261
 t119:=underlying195
 a119:=isAgg195
 z119:=sizeOf195
 t127:=underlying192
 a127:=isAgg192
 z127:=sizeOf192
 v127:=zeroValue192
 t138:=underlying197
 a138:=isAgg197
 z138:=sizeOf197
 v138:=zeroValue197
 t139:=underlying198
 a139:=isAgg198
 z139:=sizeOf198
 v139:=zeroValue198
 t160:=underlying279
 a160:=isAgg279
 z160:=sizeOf279
 v160:=zeroValue279
 t162:=underlying277
 a162:=isAgg277
 z162:=sizeOf277
 v162:=zeroValue277
 t164:=underlying223
 a164:=isAgg223
 z164:=sizeOf223
 v164:=zeroValue223
 t203:=underlying275
 a203:=isAgg275
 z203:=sizeOf275
 v203:=zeroValue275
 t206:=underlying283
 a206:=isAgg283
 z206:=sizeOf283
 v206:=zeroValue283
 t208:=underlying285
 a208:=isAgg285
 z208:=sizeOf285
 v208:=zeroValue285
 g3:=by kernel_rfl
 g4:=by kernel_rfl
 g13:=by kernel_rfl }
theorem Tryz.Builder_Extra_159:Builder.Extra Tryz.prog Tryz.lays159_ren:={
 sizeBuilder:=by kernel_rfl
 liesBuilder:=by kernel_rfl
 t5:=underlying5
 a5:=isAgg5
 z5:=sizeOf5
 v5:=zeroValue5
 infoByte:=by kernel_rfl
 cellsByte:=by kernel_rfl
 sizeByte:=by kernel_rfl
 neB5:=by decide }
open Go.RowKit in
theorem Tryz.strings_ToLower_ascii (s:ByteArray) (w:World) (hs:s.size<=140737488355328) (hascii:∀(j:Nat) (b:UInt8),s.data.toList[j]?=some b->b.toNat<128) :
    Calls Tryz.prog 190 #[.string s] w fun e w'=>e=.returned (.string ⟨(Lib.toLowerA s.data.toList).toArray⟩)/\Below w.heap.size w w':=Any.strings_ToLower_ascii Tryz.lays159 Tryz.Builder_Extra_159 s w hs hascii
def Tryz.lays161_ren:Go.Shelf.Ren:=⟨fun | 161=>137 | 231=>182 | 227=>183 | 233=>184 | 235=>185 | 228=>215 | 197=>186 | 151=>216 | 260=>217 | 152=>233 | 137=>245 | 119=>246 | 224=>180 | 225=>179 | 217=>178 | 266=>213 | n=>n,fun | 9=>9 | 4=>4 | 3=>3 | 5=>5 | 117=>229 | 116=>228 | 0=>0 | 124=>232 | 105=>233 | 21=>21 | 119=>195 | 46=>71 | 139=>198 | 138=>197 | n=>n,fun | 3=>0 | 4=>1 | n=>n⟩
theorem Tryz.lays161:Go.Proofs.Lays.n161 Tryz.prog Tryz.lays161_ren:={
 mixed:=by kernel_rfl
 f119:=ff func246
 f137:=ff func245
 f151:=ff func216
 f152:=ff func233
 f161:=ff func137
 f197:=ff func186
 f217:=ff func178
 f224:=ff func180
 f225:=ff func179
 f227:=ff func183
 f228:=ff func215
 f231:=ff func182
 f233:=ff func184
 f235:=ff func185
 f260:=ff func217
 f266:=ff func213
 t0:=underlying0
 a0:=isAgg0
 z0:=sizeOf0
 v0:=zeroValue0
 t3:=underlying3
 a3:=isAgg3
 z3:=sizeOf3
 v3:=zeroValue3
 t4:=underlying4
 a4:=isAgg4
 z4:=sizeOf4
 v4:=zeroValue4
 t5:=underlying5
 a5:=isAgg5
 z5:=sizeOf5
 v5:=zeroValue5
 t9:=underlying9
 a9:=isAgg9
 z9:=sizeOf9
 v9:=zeroValue9
 t21:=underlying21
 a21:=isAgg21
 z21:=sizeOf21
 v21:=zeroValue21
 t46:=underlying71
 a46:=isAgg71
 z46:=sizeOf71
 v46:=zeroValue71
 t105:=underlying233
 a105:=isAgg233
 z105:=sizeOf233
 v105:=zeroValue233
 t116:=underlying228
 a116:=isAgg228
 z116:=sizeOf228
 t117:=underlying229
 a117:=isAgg229
 z117:=sizeOf229
 v117:=zeroValue229
 t119:=underlying195
 a119:=isAgg195
 z119:=sizeOf195
 t124:=underlying232
 a124:=isAgg232
 z124:=sizeOf232
 v124:=zeroValue232
 t138:=underlying197
 a138:=isAgg197
 z138:=sizeOf197
 v138:=zeroValue197
 t139:=underlying198
 a139:=isAgg198
 z139:=sizeOf198
 v139:=zeroValue198
 g3:=by kernel_rfl
 g4:=by kernel_rfl }
def Tryz.lays118_ren:Go.Shelf.Ren:=⟨fun | 118=>234 | n=>n,fun | 21=>21 | 3=>3 | 4=>4 | n=>n,fun | n=>n⟩
theorem Tryz.lays118:Go.Proofs.Lays.n118 Tryz.prog Tryz.lays118_ren:={
 mixed:=by kernel_rfl
 f118:=ff func234
 t3:=underlying3
 a3:=isAgg3
 z3:=sizeOf3
 v3:=zeroValue3
 t4:=underlying4
 a4:=isAgg4
 z4:=sizeOf4
 v4:=zeroValue4
 t21:=underlying21
 a21:=isAgg21
 z21:=sizeOf21
 v21:=zeroValue21 }
theorem Tryz.utf8_RuneLen (r:Int) (w:World) :
    Calls Tryz.prog 234 #[.int .i32 r] w fun e w'=>e=.returned (.int .i64 (Lib.runeLen r))/\w'=w:=Any.utf8_RuneLen Tryz.lays118 r w
def Tryz.lays119_ren:Go.Shelf.Ren:=⟨fun | 119=>246 | n=>n,fun | 21=>21 | 4=>4 | n=>n,fun | n=>n⟩
theorem Tryz.lays119:Go.Proofs.Lays.n119 Tryz.prog Tryz.lays119_ren:={
 mixed:=by kernel_rfl
 f119:=ff func246
 t4:=underlying4
 a4:=isAgg4
 z4:=sizeOf4
 v4:=zeroValue4
 t21:=underlying21
 a21:=isAgg21
 z21:=sizeOf21
 v21:=zeroValue21 }
theorem Tryz.utf8_ValidRune (r:Int) (w:World) :
    Calls Tryz.prog 246 #[.int .i32 r] w fun e w'=>e=.returned (.bool (Lib.validRune r))/\w'=w:=Any.utf8_ValidRune Tryz.lays119 r w
def Tryz.lays125_ren:Go.Shelf.Ren:=⟨fun | 125=>52 | 128=>103 | 129=>104 | n=>n,fun | 46=>71 | 3=>3 | 51=>165 | 53=>167 | 4=>4 | 5=>5 | 9=>9 | n=>n,fun | n=>n⟩
theorem Tryz.lays125:Go.Proofs.Lays.n125 Tryz.prog Tryz.lays125_ren:={
 mixed:=by kernel_rfl
 f125:=ff func52
 f128:=ff func103
 f129:=ff func104
 t3:=underlying3
 a3:=isAgg3
 z3:=sizeOf3
 v3:=zeroValue3
 t4:=underlying4
 a4:=isAgg4
 z4:=sizeOf4
 v4:=zeroValue4
 t5:=underlying5
 a5:=isAgg5
 z5:=sizeOf5
 v5:=zeroValue5
 t9:=underlying9
 a9:=isAgg9
 z9:=sizeOf9
 v9:=zeroValue9
 t46:=underlying71
 a46:=isAgg71
 z46:=sizeOf71
 v46:=zeroValue71
 t51:=underlying165
 a51:=isAgg165
 z51:=sizeOf165
 v51:=zeroValue165
 t53:=underlying167
 a53:=isAgg167
 z53:=sizeOf167
 v53:=zeroValue167 }
theorem Tryz.bits_Len (x:Int) (w:World) (h0:0<=x) (h1:x<=18446744073709551615) :
    Calls Tryz.prog 52 #[.int .u64 x] w fun e w'=>e=.returned (.int .i64 (Lib.bitLen x.toNat))/\w'=w:=Any.bits_Len Tryz.lays125 x w h0 h1
def Tryz.lays137_ren:Go.Shelf.Ren:=⟨fun | 137=>245 | 217=>178 | 266=>213 | n=>n,fun | 9=>9 | 5=>5 | 3=>3 | n=>n,fun | n=>n⟩
theorem Tryz.lays137:Go.Proofs.Lays.n137 Tryz.prog Tryz.lays137_ren:={
 mixed:=by kernel_rfl
 f137:=ff func245
 f217:=ff func178
 f266:=ff func213
 t3:=underlying3
 a3:=isAgg3
 z3:=sizeOf3
 v3:=zeroValue3
 t5:=underlying5
 a5:=isAgg5
 z5:=sizeOf5
 v5:=zeroValue5
 t9:=underlying9
 a9:=isAgg9
 z9:=sizeOf9
 v9:=zeroValue9 }
open Go.RowKit in
theorem Tryz.strings_IndexByte (s:ByteArray) (c:Int) (w:World) :
    Calls Tryz.prog 245 #[.string s,.int .u8 c] w fun e w'=>e=.returned (.int .i64 (Lib.indexByte s.data.toList c.toNat.toUInt8))/\w'=w:=Any.strings_IndexByte Tryz.lays137 s c w
def Tryz.lays103_ren:Go.Shelf.Ren:=⟨fun | 103=>188 | 210=>221 | 206=>237 | n=>n,fun | 9=>9 | 4=>4 | 24=>236 | 3=>3 | n=>n,fun | n=>n⟩
theorem Tryz.lays103:Go.Proofs.Lays.n103 Tryz.prog Tryz.lays103_ren:={
 mixed:=by kernel_rfl
 f103:=ff func188
 f206:=ff func237
 f210:=ff func221
 t3:=underlying3
 a3:=isAgg3
 z3:=sizeOf3
 v3:=zeroValue3
 t4:=underlying4
 a4:=isAgg4
 z4:=sizeOf4
 v4:=zeroValue4
 t9:=underlying9
 a9:=isAgg9
 z9:=sizeOf9
 v9:=zeroValue9
 t24:=underlying236
 a24:=isAgg236
 z24:=sizeOf236
 v24:=zeroValue236 }
open Go.RowKit in
theorem Tryz.strings_CutPrefix (s p:ByteArray) (w:World) :
    Calls Tryz.prog 188 #[.string s,.string p] w fun e w'=>e=.returned (.tuple #[.string ⟨(Lib.trimPrefix s.data.toList p.data.toList).toArray⟩,.bool (Lib.hasPrefix s.data.toList p.data.toList)])/\w'=w:=Any.strings_CutPrefix Tryz.lays103 s p w
def Tryz.lays122_ren:Go.Shelf.Ren:=⟨fun | 122=>112 | 215=>165 | n=>n,fun | 3=>3 | 4=>4 | n=>n,fun | n=>n⟩
theorem Tryz.lays122:Go.Proofs.Lays.n122 Tryz.prog Tryz.lays122_ren:={
 mixed:=by kernel_rfl
 f122:=ff func112
 f215:=ff func165
 t3:=underlying3
 a3:=isAgg3
 z3:=sizeOf3
 v3:=zeroValue3
 t4:=underlying4
 a4:=isAgg4
 z4:=sizeOf4
 v4:=zeroValue4 }
open Go.RowKit in
theorem Tryz.cmp_Compare_int (x y:Int) (w:World) :
    Calls Tryz.prog 112 #[.int .i64 x,.int .i64 y] w fun e w'=>e=.returned (.int .i64 (Lib.compareInt x y))/\w'=w:=Any.cmp_Compare_int Tryz.lays122 x y w
def Tryz.lays242_ren:Go.Shelf.Ren:=⟨fun | 242=>236 | 278=>248 | n=>n,fun | 37=>22 | 21=>21 | 51=>165 | 4=>4 | 5=>5 | 46=>71 | n=>n,fun | n=>n⟩
theorem Tryz.lays242:Go.Proofs.Lays.n242 Tryz.prog Tryz.lays242_ren:={
 mixed:=by kernel_rfl
 f242:=ff func236
 f278:=ff func248
 t4:=underlying4
 a4:=isAgg4
 z4:=sizeOf4
 v4:=zeroValue4
 t5:=underlying5
 a5:=isAgg5
 z5:=sizeOf5
 v5:=zeroValue5
 t21:=underlying21
 a21:=isAgg21
 z21:=sizeOf21
 v21:=zeroValue21
 t37:=underlying22
 a37:=isAgg22
 z37:=sizeOf22
 v37:=zeroValue22
 t46:=underlying71
 a46:=isAgg71
 z46:=sizeOf71
 v46:=zeroValue71
 t51:=underlying165
 a51:=isAgg165
 z51:=sizeOf165
 v51:=zeroValue165 }
open Go.RowKit in
theorem Tryz.utf8_AppendRune_plain (B:Nat) (v:Value) (n:Nat) (xs:List Value) (r:Int) (hr0 : -2147483648<=r) (hr1:r<=2147483647) (w:World) (hown:w.ownsRow B 5 1 v n xs) (hlen:n+4<=140737488355328) (hBw:B<=w.heap.size) :
    Calls Tryz.prog 236 #[v,.int .i32 r] w fun e w'=>∃v',e=.returned v'/\w'.ownsRow B 5 1 v' (n+(Lib.runeCells r).length) (xs++Lib.runeCells r)/\∃o,(w.alloc o).grownBy w' v.ownBlock:=Any.utf8_AppendRune_plain Tryz.lays242 (by kernel_rfl) B v n xs r hr0 hr1 w hown hlen hBw
def Tryz.lays145_ren:Go.Shelf.Ren:=⟨fun | 145=>45 | 220=>96 | 219=>134 | 217=>178 | 225=>179 | 224=>180 | 267=>181 | 266=>213 | 314=>214 | n=>n,fun | 9=>9 | 4=>4 | 59=>98 | 3=>3 | 5=>5 | 46=>71 | 146=>253 | 51=>165 | n=>n,fun | 1=>2 | n=>n⟩
theorem Tryz.lays145:Go.Proofs.Lays.n145 Tryz.prog Tryz.lays145_ren:={
 mixed:=by kernel_rfl
 f145:=ff func45
 f217:=ff func178
 f219:=ff func134
 f220:=ff func96
 f224:=ff func180
 f225:=ff func179
 f266:=ff func213
 f267:=ff func181
 f314:=ff func214
 t3:=underlying3
 a3:=isAgg3
 z3:=sizeOf3
 v3:=zeroValue3
 t4:=underlying4
 a4:=isAgg4
 z4:=sizeOf4
 v4:=zeroValue4
 t5:=underlying5
 a5:=isAgg5
 z5:=sizeOf5
 v5:=zeroValue5
 t9:=underlying9
 a9:=isAgg9
 z9:=sizeOf9
 v9:=zeroValue9
 t46:=underlying71
 a46:=isAgg71
 z46:=sizeOf71
 v46:=zeroValue71
 t51:=underlying165
 a51:=isAgg165
 z51:=sizeOf165
 v51:=zeroValue165
 t59:=underlying98
 a59:=isAgg98
 z59:=sizeOf98
 v59:=zeroValue98
 t146:=underlying253
 a146:=isAgg253
 z146:=sizeOf253
 v146:=zeroValue253
 g1:=by kernel_rfl }
open Go.RowKit Go.Lib in
theorem Tryz.strings_Cut (s sep:ByteArray) (m:Int) (w:World) (hs:s.size<4294967281) (hm:w.cell? ⟨2,0,none⟩=some (.int .i64 m)) :
    Calls Tryz.prog 45 #[.string s,.string sep] w fun e w'=>e=.returned (.tuple #[.string ⟨(Lib.cut s.data.toList sep.data.toList).1.toArray⟩,.string ⟨(Lib.cut s.data.toList sep.data.toList).2.1.toArray⟩,.bool (Lib.cut s.data.toList sep.data.toList).2.2])/\∃n,w'=w.drewN n:=Any.strings_Cut Tryz.lays145 s sep m w hs hm
def Tryz.laysM219_ren:Go.Shelf.Ren:=⟨fun | 219=>134 | 217=>178 | 225=>179 | 224=>180 | 267=>181 | 266=>213 | 314=>214 | n=>n,fun | 9=>9 | 3=>3 | 4=>4 | 5=>5 | 46=>71 | 146=>253 | 51=>165 | n=>n,fun | 1=>2 | n=>n⟩
theorem Tryz.laysM219:Go.Proofs.LaysM.n219 Tryz.prog Tryz.laysM219_ren:={
 mixed:=by kernel_rfl
 f217:=ff func178
 f219:=ff func134
 f224:=ff func180
 f225:=ff func179
 f266:=ff func213
 f267:=ff func181
 f314:=ff func214
 t3:=underlying3
 a3:=isAgg3
 z3:=sizeOf3
 v3:=zeroValue3
 t4:=underlying4
 a4:=isAgg4
 z4:=sizeOf4
 v4:=zeroValue4
 t5:=underlying5
 a5:=isAgg5
 z5:=sizeOf5
 v5:=zeroValue5
 t9:=underlying9
 a9:=isAgg9
 z9:=sizeOf9
 v9:=zeroValue9
 t46:=underlying71
 a46:=isAgg71
 z46:=sizeOf71
 v46:=zeroValue71
 t51:=underlying165
 a51:=isAgg165
 z51:=sizeOf165
 v51:=zeroValue165
 t146:=underlying253
 a146:=isAgg253
 z146:=sizeOf253
 v146:=zeroValue253
 g1:=by kernel_rfl
 i3:=by kernel_rfl
 i4:=by kernel_rfl
 i5:=by kernel_rfl
 i9:=by kernel_rfl
 i46:=by kernel_rfl
 i51:=by kernel_rfl
 i146:=by kernel_rfl
 m1:=by kernel_rfl
 s1_3:=fun w h=>Go.Proofs.cell_of_shapedOpen_int (zero:=#[.int .i64 0]) (t:=3) h (of_decide_eq_true (by kernel_rfl)) (by kernel_rfl) rfl (by kernel_rfl) (by kernel_rfl) underlying3 }
def Tryz.lays272_ren:Go.Shelf.Ren:=⟨fun | 272=>189 | 315=>222 | n=>n,fun | 9=>9 | 40=>201 | 4=>4 | 3=>3 | 0=>0 | 21=>21 | n=>n,fun | n=>n⟩
theorem Tryz.lays272:Go.Proofs.Lays.n272 Tryz.prog Tryz.lays272_ren:={
 mixed:=by kernel_rfl
 f272:=ff func189
 f315:=ff func222
 t0:=underlying0
 a0:=isAgg0
 z0:=sizeOf0
 v0:=zeroValue0
 t3:=underlying3
 a3:=isAgg3
 z3:=sizeOf3
 v3:=zeroValue3
 t4:=underlying4
 a4:=isAgg4
 z4:=sizeOf4
 v4:=zeroValue4
 t9:=underlying9
 a9:=isAgg9
 z9:=sizeOf9
 v9:=zeroValue9
 t21:=underlying21
 a21:=isAgg21
 z21:=sizeOf21
 v21:=zeroValue21
 t40:=underlying201
 a40:=isAgg201
 z40:=sizeOf201
 v40:=zeroValue201 }
def Tryz.laysGw17_ren:Go.Shelf.Ren:=⟨fun | 17=>226 | 15=>241 | 20=>222 | n=>n,fun | 9=>9 | 23=>201 | 4=>4 | 3=>3 | 0=>0 | 21=>21 | n=>n,fun | n=>n⟩
theorem Tryz.laysGw17:Go.Proofs.LaysGw.n17 Tryz.prog Tryz.laysGw17_ren:={
 mixed:=by kernel_rfl
 f15:=ff func241
 f17:=ff func226
 f20:=ff func222
 t0:=underlying0
 a0:=isAgg0
 z0:=sizeOf0
 v0:=zeroValue0
 i0:=by kernel_rfl
 t3:=underlying3
 a3:=isAgg3
 z3:=sizeOf3
 v3:=zeroValue3
 i3:=by kernel_rfl
 t4:=underlying4
 a4:=isAgg4
 z4:=sizeOf4
 v4:=zeroValue4
 i4:=by kernel_rfl
 t9:=underlying9
 a9:=isAgg9
 z9:=sizeOf9
 v9:=zeroValue9
 i9:=by kernel_rfl
 t21:=underlying21
 a21:=isAgg21
 z21:=sizeOf21
 v21:=zeroValue21
 i21:=by kernel_rfl
 t23:=underlying201
 a23:=isAgg201
 z23:=sizeOf201
 v23:=zeroValue201
 i23:=by kernel_rfl }
def Tryz.lays102_ren:Go.Shelf.Ren:=⟨fun | 102=>46 | 209=>97 | 207=>135 | n=>n,fun | 9=>9 | 4=>4 | 3=>3 | n=>n,fun | n=>n⟩
theorem Tryz.lays102:Go.Proofs.Lays.n102 Tryz.prog Tryz.lays102_ren:={
 mixed:=by kernel_rfl
 f102:=ff func46
 f207:=ff func135
 f209:=ff func97
 t3:=underlying3
 a3:=isAgg3
 z3:=sizeOf3
 v3:=zeroValue3
 t4:=underlying4
 a4:=isAgg4
 z4:=sizeOf4
 v4:=zeroValue4
 t9:=underlying9
 a9:=isAgg9
 z9:=sizeOf9
 v9:=zeroValue9 }
open Go.RowKit Go.Lib in
theorem Tryz.strings_TrimSuffix (s p:ByteArray) (w:World) (hs:s.size<=9223372036854775807) :
    Calls Tryz.prog 46 #[.string s,.string p] w fun e w'=>e=.returned (.string ⟨(Lib.trimSuffix s.data.toList p.data.toList).toArray⟩)/\w'=w:=Any.strings_TrimSuffix Tryz.lays102 s p w hs
def Tryz.lays146_ren:Go.Shelf.Ren:=⟨fun | 146=>197 | 221=>228 | 268=>242 | 138=>243 | 143=>244 | 195=>251 | 197=>186 | 218=>252 | 219=>134 | 260=>217 | 217=>178 | 225=>179 | 224=>180 | 267=>181 | 266=>213 | 314=>214 | n=>n,fun | 9=>9 | 31=>41 | 3=>3 | 4=>4 | 0=>0 | 105=>233 | 21=>21 | 5=>5 | 46=>71 | 119=>195 | 139=>198 | 138=>197 | 146=>253 | 51=>165 | n=>n,fun | 1=>2 | 3=>0 | 4=>1 | n=>n⟩
theorem Tryz.lays146:Go.Proofs.Lays.n146 Tryz.prog Tryz.lays146_ren:={
 mixed:=by kernel_rfl
 f138:=ff func243
 f143:=ff func244
 f146:=ff func197
 f195:=ff func251
 f197:=ff func186
 f217:=ff func178
 f218:=ff func252
 f219:=ff func134
 f221:=ff func228
 f224:=ff func180
 f225:=ff func179
 f260:=ff func217
 f266:=ff func213
 f267:=ff func181
 f268:=ff func242
 f314:=ff func214
 t0:=underlying0
 a0:=isAgg0
 z0:=sizeOf0
 v0:=zeroValue0
 t3:=underlying3
 a3:=isAgg3
 z3:=sizeOf3
 v3:=zeroValue3
 t4:=underlying4
 a4:=isAgg4
 z4:=sizeOf4
 v4:=zeroValue4
 t5:=underlying5
 a5:=isAgg5
 z5:=sizeOf5
 v5:=zeroValue5
 t9:=underlying9
 a9:=isAgg9
 z9:=sizeOf9
 v9:=zeroValue9
 t21:=underlying21
 a21:=isAgg21
 z21:=sizeOf21
 v21:=zeroValue21
 t31:=underlying41
 a31:=isAgg41
 z31:=sizeOf41
 v31:=zeroValue41
 t46:=underlying71
 a46:=isAgg71
 z46:=sizeOf71
 v46:=zeroValue71
 t51:=underlying165
 a51:=isAgg165
 z51:=sizeOf165
 v51:=zeroValue165
 t105:=underlying233
 a105:=isAgg233
 z105:=sizeOf233
 v105:=zeroValue233
 t119:=underlying195
 a119:=isAgg195
 z119:=sizeOf195
 t138:=underlying197
 a138:=isAgg197
 z138:=sizeOf197
 v138:=zeroValue197
 t139:=underlying198
 a139:=isAgg198
 z139:=sizeOf198
 v139:=zeroValue198
 t146:=underlying253
 a146:=isAgg253
 z146:=sizeOf253
 v146:=zeroValue253
 g1:=by kernel_rfl
 g3:=by kernel_rfl
 g4:=by kernel_rfl }
open Go.RowKit Go.Lib in
theorem Tryz.strings_Split (s sep:ByteArray) (m:Int) (w:World) (hs:s.size<4294967281) (hm:w.cell? ⟨2,0,none⟩=some (.int .i64 m)) (h1:1<=sep.size) :
    Calls Tryz.prog 197 #[.string s,.string sep] w fun e w'=>
     e=.returned (.slice (some ⟨w.heap.size,0,none⟩) (Lib.countB s sep+1) (Lib.countB s sep+1))/\w'=w.alloc (.cells ((Lib.splitB sep 0 (Lib.countB s sep) s).map Value.string).toArray 9):=Any.strings_Split Tryz.lays146 (by kernel_rfl) s sep m w hs hm h1
def Tryz.lays204_ren:Go.Shelf.Ren:=⟨fun | 204=>225 | 262=>240 | 313=>250 | 274=>253 | 275=>254 | n=>n,fun | 21=>21 | 4=>4 | 3=>3 | 162=>277 | 203=>275 | 160=>279 | 46=>71 | 0=>0 | 208=>285 | 51=>165 | 206=>283 | n=>n,fun | 13=>3 | n=>n⟩
theorem Tryz.lays204:Go.Proofs.Lays.n204 Tryz.prog Tryz.lays204_ren:={
 mixed:=by kernel_rfl
 f204:=ff func225
 f262:=ff func240
 f274:=ff func253
 f275:=ff func254
 f313:=ff func250
 t0:=underlying0
 a0:=isAgg0
 z0:=sizeOf0
 v0:=zeroValue0
 t3:=underlying3
 a3:=isAgg3
 z3:=sizeOf3
 v3:=zeroValue3
 t4:=underlying4
 a4:=isAgg4
 z4:=sizeOf4
 v4:=zeroValue4
 t21:=underlying21
 a21:=isAgg21
 z21:=sizeOf21
 v21:=zeroValue21
 t46:=underlying71
 a46:=isAgg71
 z46:=sizeOf71
 v46:=zeroValue71
 t51:=underlying165
 a51:=isAgg165
 z51:=sizeOf165
 v51:=zeroValue165
 t160:=underlying279
 a160:=isAgg279
 z160:=sizeOf279
 v160:=zeroValue279
 t162:=underlying277
 a162:=isAgg277
 z162:=sizeOf277
 v162:=zeroValue277
 t203:=underlying275
 a203:=isAgg275
 z203:=sizeOf275
 v203:=zeroValue275
 t206:=underlying283
 a206:=isAgg283
 z206:=sizeOf283
 v206:=zeroValue283
 t208:=underlying285
 a208:=isAgg285
 z208:=sizeOf285
 v208:=zeroValue285
 g13:=by kernel_rfl }
def Tryz.lays197_ren:Go.Shelf.Ren:=⟨fun | 197=>186 | 260=>217 | n=>n,fun | 9=>9 | 21=>21 | 3=>3 | 4=>4 | 5=>5 | 105=>233 | 119=>195 | 0=>0 | 46=>71 | 139=>198 | 138=>197 | n=>n,fun | 3=>0 | 4=>1 | n=>n⟩
theorem Tryz.lays197:Go.Proofs.Lays.n197 Tryz.prog Tryz.lays197_ren:={
 mixed:=by kernel_rfl
 f197:=ff func186
 f260:=ff func217
 t0:=underlying0
 a0:=isAgg0
 z0:=sizeOf0
 v0:=zeroValue0
 t3:=underlying3
 a3:=isAgg3
 z3:=sizeOf3
 v3:=zeroValue3
 t4:=underlying4
 a4:=isAgg4
 z4:=sizeOf4
 v4:=zeroValue4
 t5:=underlying5
 a5:=isAgg5
 z5:=sizeOf5
 v5:=zeroValue5
 t9:=underlying9
 a9:=isAgg9
 z9:=sizeOf9
 v9:=zeroValue9
 t21:=underlying21
 a21:=isAgg21
 z21:=sizeOf21
 v21:=zeroValue21
 t46:=underlying71
 a46:=isAgg71
 z46:=sizeOf71
 v46:=zeroValue71
 t105:=underlying233
 a105:=isAgg233
 z105:=sizeOf233
 v105:=zeroValue233
 t119:=underlying195
 a119:=isAgg195
 z119:=sizeOf195
 t138:=underlying197
 a138:=isAgg197
 z138:=sizeOf197
 v138:=zeroValue197
 t139:=underlying198
 a139:=isAgg198
 z139:=sizeOf198
 v139:=zeroValue198
 g3:=by kernel_rfl
 g4:=by kernel_rfl }
def Tryz.lays152_ren:Go.Shelf.Ren:=⟨fun | 152=>233 | 137=>245 | 119=>246 | 224=>180 | 225=>179 | 217=>178 | 266=>213 | n=>n,fun | 9=>9 | 21=>21 | 3=>3 | 4=>4 | 5=>5 | 0=>0 | 46=>71 | n=>n,fun | n=>n⟩
theorem Tryz.lays152:Go.Proofs.Lays.n152 Tryz.prog Tryz.lays152_ren:={
 mixed:=by kernel_rfl
 f119:=ff func246
 f137:=ff func245
 f152:=ff func233
 f217:=ff func178
 f224:=ff func180
 f225:=ff func179
 f266:=ff func213
 t0:=underlying0
 a0:=isAgg0
 z0:=sizeOf0
 v0:=zeroValue0
 t3:=underlying3
 a3:=isAgg3
 z3:=sizeOf3
 v3:=zeroValue3
 t4:=underlying4
 a4:=isAgg4
 z4:=sizeOf4
 v4:=zeroValue4
 t5:=underlying5
 a5:=isAgg5
 z5:=sizeOf5
 v5:=zeroValue5
 t9:=underlying9
 a9:=isAgg9
 z9:=sizeOf9
 v9:=zeroValue9
 t21:=underlying21
 a21:=isAgg21
 z21:=sizeOf21
 v21:=zeroValue21
 t46:=underlying71
 a46:=isAgg71
 z46:=sizeOf71
 v46:=zeroValue71 }
open Go.RowKit Go.Lib in
theorem Tryz.strings_IndexRune_ascii (s:ByteArray) (r:Int) (w:World) (h0:0<=r) (h1:r<128) :
    Calls Tryz.prog 233 #[.string s,.int .i32 r] w fun e w'=>e=.returned (.int .i64 (Lib.indexByte s.data.toList r.toNat.toUInt8))/\w'=w:=Any.strings_IndexRune_ascii Tryz.lays152 s r w h0 h1
def Tryz.lays151_ren:Go.Shelf.Ren:=⟨fun | 151=>216 | 152=>233 | 137=>245 | 119=>246 | 224=>180 | 225=>179 | 217=>178 | 266=>213 | n=>n,fun | 9=>9 | 21=>21 | 4=>4 | 3=>3 | 5=>5 | 0=>0 | 46=>71 | n=>n,fun | n=>n⟩
theorem Tryz.lays151:Go.Proofs.Lays.n151 Tryz.prog Tryz.lays151_ren:={
 mixed:=by kernel_rfl
 f119:=ff func246
 f137:=ff func245
 f151:=ff func216
 f152:=ff func233
 f217:=ff func178
 f224:=ff func180
 f225:=ff func179
 f266:=ff func213
 t0:=underlying0
 a0:=isAgg0
 z0:=sizeOf0
 v0:=zeroValue0
 t3:=underlying3
 a3:=isAgg3
 z3:=sizeOf3
 v3:=zeroValue3
 t4:=underlying4
 a4:=isAgg4
 z4:=sizeOf4
 v4:=zeroValue4
 t5:=underlying5
 a5:=isAgg5
 z5:=sizeOf5
 v5:=zeroValue5
 t9:=underlying9
 a9:=isAgg9
 z9:=sizeOf9
 v9:=zeroValue9
 t21:=underlying21
 a21:=isAgg21
 z21:=sizeOf21
 v21:=zeroValue21
 t46:=underlying71
 a46:=isAgg71
 z46:=sizeOf71
 v46:=zeroValue71 }
open Go.RowKit Go.Lib in
theorem Tryz.strings_ContainsRune_ascii (s:ByteArray) (r:Int) (w:World) (h0:0<=r) (h1:r<128) :
    Calls Tryz.prog 216 #[.string s,.int .i32 r] w fun e w'=>e=.returned (.bool (decide (0<=Lib.indexByte s.data.toList r.toNat.toUInt8)))/\w'=w:=Any.strings_ContainsRune_ascii Tryz.lays151 s r w h0 h1
open Go.RowKit Go.Lib in
theorem Tryz.utf8_DecodeRuneInString (s:ByteArray) (w:World) (hT:Lib.Utf8Tabs 0 1 w) :
    Calls Tryz.prog 186 #[.string s] w fun e w'=>e=.returned (.tuple #[.int .i32 (Lib.decodeGo s).1,.int .i64 (Lib.decodeGo s).2])/\Below w.heap.size w w':=Any.utf8_DecodeRuneInString Tryz.lays197 s w hT
open Go.RowKit Go.Lib in
theorem Tryz.strings_TrimLeftFunc_grows (g:Nat) (lb:Array Value) (eg:∀args w,(callFunc g args).run Tryz.prog w=.ok (.enter g args) w) (p:Nat->Bool) (s:ByteArray) (w:World) (hp:PredGrows Tryz.prog g lb p w) :
    Calls Tryz.prog 189 #[.string s,.func (.func g) #[] lb] w fun e w'=>e=.returned (.string (Lib.trimLeftF p s))/\Below w.heap.size w w':=Any.strings_TrimLeftFunc_grows Tryz.lays272 g lb eg p s w hp
open Go.RowKit Go.Lib in
theorem Tryz.strings_ContainsFunc_grows (g:Nat) (lb:Array Value) (eg:∀args w,(callFunc g args).run Tryz.prog w=.ok (.enter g args) w) (p:Nat->Bool) (s:ByteArray) (w:World) (hp:PredGrows Tryz.prog g lb p w) :
    Calls Tryz.prog 226 #[.string s,.func (.func g) #[] lb] w fun e w'=>e=.returned (.bool (decide (0<=Lib.idxFunc p true s)))/\Below w.heap.size w w':=Any.strings_ContainsFunc_grows Tryz.laysGw17 g lb eg p s w hp
end Go.Proofs
end
