/- The shelf's contracts at this program, as the kit's lay-plain tool wrote them, cut by a program of mine; each theorem states its own conditions. -/
import Derived.Shelf.Strings.Trim
import Derived.Shelf.Small.Wraps
import Derived.Shelf.Utf8.AppendRune
import Derived.Shelf.Utf8.AppendRunePlain
import Derived.Shelf.Utf8.RuneCount
import Derived.Shelf.Strings.Shaped
import Derived.Shelf.Sort.Plain
import Derived.Shelf.GgClosure.StringsRunes
import Derived.Shelf.Strings.SplitShaped
import Derived.Shelf.Strings.Runes
import Derived.Shelf.Strings.AsciiSet
import Derived.Shelf.Strings.Explode
import Derived.Shelf.Strings.CaseAny
import Derived.Shelf.Strings.FuncGrows
import Derived.Shelf.Strings.MapGrows
import Derived.Shelf.Slices.Turned
import Derived.Shelf.Slices.SearchI
import Derived.Shelf.Slices.Cells
import Derived.Shelf.Slices.In.SortNone
import Derived.Shelf.Bytes.SlSearch0
import Derived.Shelf.Bytes.SlClone
import Derived.Shelf.SlicesE.Clone
import Derived.Shelf.SlicesE.IndexFunc
import Derived.Shelf.Bytes.SlEqualAll
import Derived.Test.YtaeiifngjglchaaGreatDoorProg
namespace Go.Proofs
open Go.RowKit
theorem nL {n:Nat}:n<=n:=Nat.le_refl n
theorem dT {p:Prop} [Decidable p] (h:p):decide p=true:=decide_eq_true h
theorem dF {p:Prop} [Decidable p] (h:¬p):decide p=false:=decide_eq_false h
theorem oT {p:Prop} [Decidable p] (h:decide p=true):p:=of_decide_eq_true h
theorem br {b:Nat} {w:World}:Below b w w:=Below.refl b w
theorem wI {x y:Int} (h : -9223372036854775808<=x/\x<=9223372036854775807/\x=y):IntKind.i64.wrap x=y:=by rw[IntKind.wrap_i64];omega
theorem fs {P:Program} {i:Nat} {fn:Func} {Q:String->Prop} {F:String->Func} (h:P.funcs[i]?=some fn) (h1:Q fn.name:=by decide) (h2:fn=F fn.name:=by kernel_rfl):∃n,Q n/\P.funcs[i]?=some (F n):=⟨_,h1,h.trans (congrArg some h2)⟩
theorem ff {P:Program} {i:Nat} {fn fn':Func} (h:P.funcs[i]?=some fn) (h2:fn=fn':=by kernel_rfl):P.funcs[i]?=some fn':=h.trans (congrArg some h2)
end Go.Proofs
section
namespace Go.Proofs
open Tryz
open Go.Shelf
def Tryz.lays169_ren:Go.Shelf.Ren:=⟨fun | 169=>105 | n=>n,fun | 70=>177 | 9=>9 | 0=>0 | 72=>179 | 37=>32 | 127=>225 | 3=>3 | 5=>5 | n=>n,fun | n=>n⟩
theorem Tryz.lays169:Go.Proofs.Lays.n169 Tryz.prog Tryz.lays169_ren:={
 mixed:=by kernel_rfl
 f169:=ff func105
 t0:=underlying0
 a0:=isAgg0
 z0:=sizeOf0
 v0:=zeroValue0
 t3:=underlying3
 a3:=isAgg3
 z3:=sizeOf3
 v3:=zeroValue3
 t9:=underlying9
 a9:=isAgg9
 z9:=sizeOf9
 v9:=zeroValue9
 t37:=underlying32
 a37:=isAgg32
 z37:=sizeOf32
 v37:=zeroValue32
 t70:=underlying177
 a70:=isAgg177
 z70:=sizeOf177
 v70:=zeroValue177
 t72:=underlying179
 a72:=isAgg179
 z72:=sizeOf179
 v72:=zeroValue179
 t127:=underlying225
 a127:=isAgg225
 z127:=sizeOf225
 v127:=zeroValue225 }
theorem Tryz.Builder_Extra_169:Builder.Extra Tryz.prog Tryz.lays169_ren:={
 sizeBuilder:=by kernel_rfl
 liesBuilder:=by kernel_rfl
 t5:=underlying5
 a5:=isAgg5
 z5:=sizeOf5
 v5:=zeroValue5
 infoByte:=by kernel_rfl
 cellsByte:=by kernel_rfl
 sizeByte:=by kernel_rfl
 neB5:=by decide }
open Go.RowKit in
theorem Tryz.Builder_String_any (B b:Nat) (l:List UInt8) (w:World) (h:Lib.IsBuilder 179 5 B b (Lib.byteCells l) w) (hBw:B<=w.heap.size) :
    Calls Tryz.prog 105 #[.pointer (some ⟨b,0,none⟩)] w fun e w'=>e=.returned (.string ⟨l.toArray⟩)/\Below B w w':=Any.Builder_String_any Tryz.lays169 Tryz.Builder_Extra_169 B b l w h hBw
def Tryz.lays159_ren:Go.Shelf.Ren:=⟨fun | 159=>235 | 165=>300 | 166=>104 | 167=>148 | 169=>105 | 230=>301 | 204=>302 | 240=>151 | 241=>339 | 197=>231 | 118=>335 | 168=>297 | 270=>340 | 262=>341 | 276=>222 | 277=>371 | 260=>294 | 242=>337 | 313=>372 | 278=>370 | 274=>381 | 275=>382 | n=>n,fun | 9=>9 | 4=>4 | 3=>3 | 5=>5 | 72=>179 | 0=>0 | 76=>182 | 75=>181 | 107=>363 | 70=>177 | 20=>20 | 37=>32 | 127=>225 | 21=>21 | 105=>304 | 164=>294 | 162=>433 | 203=>431 | 119=>228 | 46=>149 | 139=>231 | 138=>230 | 51=>214 | 160=>440 | 208=>452 | 206=>450 | 80=>34 | n=>n,fun | 13=>4 | 3=>0 | 4=>1 | n=>n⟩
theorem Tryz.lays159:Go.Proofs.Lays.n159 Tryz.prog Tryz.lays159_ren:={
 mixed:=by kernel_rfl
 f118:=ff func335
 f159:=ff func235
 f165:=ff func300
 f166:=ff func104
 f167:=ff func148
 f168:=ff func297
 f169:=ff func105
 f197:=ff func231
 f204:=ff func302
 f230:=ff func301
 f240:=ff func151
 f241:=ff func339
 f242:=ff func337
 f260:=ff func294
 f262:=ff func341
 f270:=ff func340
 f274:=ff func381
 f275:=ff func382
 f276:=ff func222
 f277:=ff func371
 f278:=ff func370
 f313:=ff func372
 t0:=underlying0
 a0:=isAgg0
 z0:=sizeOf0
 v0:=zeroValue0
 t3:=underlying3
 a3:=isAgg3
 z3:=sizeOf3
 v3:=zeroValue3
 t4:=underlying4
 a4:=isAgg4
 z4:=sizeOf4
 v4:=zeroValue4
 t5:=underlying5
 a5:=isAgg5
 z5:=sizeOf5
 v5:=zeroValue5
 t9:=underlying9
 a9:=isAgg9
 z9:=sizeOf9
 v9:=zeroValue9
 t20:=underlying20
 a20:=isAgg20
 z20:=sizeOf20
 v20:=zeroValue20
 t21:=underlying21
 a21:=isAgg21
 z21:=sizeOf21
 v21:=zeroValue21
 t37:=underlying32
 a37:=isAgg32
 z37:=sizeOf32
 v37:=zeroValue32
 t46:=underlying149
 a46:=isAgg149
 z46:=sizeOf149
 v46:=zeroValue149
 t51:=underlying214
 a51:=isAgg214
 z51:=sizeOf214
 v51:=zeroValue214
 t70:=underlying177
 a70:=isAgg177
 z70:=sizeOf177
 v70:=zeroValue177
 t72:=underlying179
 a72:=isAgg179
 z72:=sizeOf179
 v72:=zeroValue179
 t75:=underlying181
 a75:=isAgg181
 z75:=sizeOf181
 v75:=zeroValue181
 t76:=underlying182
 a76:=isAgg182
 z76:=sizeOf182
 v76:=zeroValue182
 t105:=underlying304
 a105:=isAgg304
 z105:=sizeOf304
 v105:=zeroValue304
 t107:=underlying363
 a107:=isAgg363
 z107:=sizeOf363
 v107:=zeroValue363
 t119:=underlying228
 a119:=isAgg228
 z119:=sizeOf228
 t127:=underlying225
 a127:=isAgg225
 z127:=sizeOf225
 v127:=zeroValue225
 t138:=underlying230
 a138:=isAgg230
 z138:=sizeOf230
 v138:=zeroValue230
 t139:=underlying231
 a139:=isAgg231
 z139:=sizeOf231
 v139:=zeroValue231
 t160:=underlying440
 a160:=isAgg440
 z160:=sizeOf440
 v160:=zeroValue440
 t162:=underlying433
 a162:=isAgg433
 z162:=sizeOf433
 v162:=zeroValue433
 t164:=underlying294
 a164:=isAgg294
 z164:=sizeOf294
 v164:=zeroValue294
 t203:=underlying431
 a203:=isAgg431
 z203:=sizeOf431
 v203:=zeroValue431
 t206:=underlying450
 a206:=isAgg450
 z206:=sizeOf450
 v206:=zeroValue450
 t208:=underlying452
 a208:=isAgg452
 z208:=sizeOf452
 v208:=zeroValue452
 g3:=by kernel_rfl
 g4:=by kernel_rfl
 g13:=by kernel_rfl }
theorem Tryz.Builder_Extra_159:Builder.Extra Tryz.prog Tryz.lays159_ren:={
 sizeBuilder:=by kernel_rfl
 liesBuilder:=by kernel_rfl
 t5:=underlying5
 a5:=isAgg5
 z5:=sizeOf5
 v5:=zeroValue5
 infoByte:=by kernel_rfl
 cellsByte:=by kernel_rfl
 sizeByte:=by kernel_rfl
 neB5:=by decide }
open Go.RowKit in
theorem Tryz.strings_ToLower_ascii (s:ByteArray) (w:World) (hs:s.size<=140737488355328) (hascii:∀(j:Nat) (b:UInt8),s.data.toList[j]?=some b->b.toNat<128) :
    Calls Tryz.prog 235 #[.string s] w fun e w'=>e=.returned (.string ⟨(Lib.toLowerA s.data.toList).toArray⟩)/\Below w.heap.size w w':=Any.strings_ToLower_ascii Tryz.lays159 Tryz.Builder_Extra_159 s w hs hascii
def Tryz.lays161_ren:Go.Shelf.Ren:=⟨fun | 161=>155 | 231=>227 | 227=>228 | 233=>229 | 235=>230 | 228=>292 | 197=>231 | 151=>293 | 260=>294 | 152=>334 | 137=>367 | 119=>368 | 224=>225 | 225=>224 | 217=>223 | 266=>290 | n=>n,fun | 9=>9 | 4=>4 | 3=>3 | 5=>5 | 117=>300 | 116=>299 | 0=>0 | 124=>303 | 105=>304 | 21=>21 | 119=>228 | 46=>149 | 139=>231 | 138=>230 | n=>n,fun | 3=>0 | 4=>1 | n=>n⟩
theorem Tryz.lays161:Go.Proofs.Lays.n161 Tryz.prog Tryz.lays161_ren:={
 mixed:=by kernel_rfl
 f119:=ff func368
 f137:=ff func367
 f151:=ff func293
 f152:=ff func334
 f161:=ff func155
 f197:=ff func231
 f217:=ff func223
 f224:=ff func225
 f225:=ff func224
 f227:=ff func228
 f228:=ff func292
 f231:=ff func227
 f233:=ff func229
 f235:=ff func230
 f260:=ff func294
 f266:=ff func290
 t0:=underlying0
 a0:=isAgg0
 z0:=sizeOf0
 v0:=zeroValue0
 t3:=underlying3
 a3:=isAgg3
 z3:=sizeOf3
 v3:=zeroValue3
 t4:=underlying4
 a4:=isAgg4
 z4:=sizeOf4
 v4:=zeroValue4
 t5:=underlying5
 a5:=isAgg5
 z5:=sizeOf5
 v5:=zeroValue5
 t9:=underlying9
 a9:=isAgg9
 z9:=sizeOf9
 v9:=zeroValue9
 t21:=underlying21
 a21:=isAgg21
 z21:=sizeOf21
 v21:=zeroValue21
 t46:=underlying149
 a46:=isAgg149
 z46:=sizeOf149
 v46:=zeroValue149
 t105:=underlying304
 a105:=isAgg304
 z105:=sizeOf304
 v105:=zeroValue304
 t116:=underlying299
 a116:=isAgg299
 z116:=sizeOf299
 t117:=underlying300
 a117:=isAgg300
 z117:=sizeOf300
 v117:=zeroValue300
 t119:=underlying228
 a119:=isAgg228
 z119:=sizeOf228
 t124:=underlying303
 a124:=isAgg303
 z124:=sizeOf303
 v124:=zeroValue303
 t138:=underlying230
 a138:=isAgg230
 z138:=sizeOf230
 v138:=zeroValue230
 t139:=underlying231
 a139:=isAgg231
 z139:=sizeOf231
 v139:=zeroValue231
 g3:=by kernel_rfl
 g4:=by kernel_rfl }
def Tryz.lays118_ren:Go.Shelf.Ren:=⟨fun | 118=>335 | n=>n,fun | 21=>21 | 3=>3 | 4=>4 | n=>n,fun | n=>n⟩
theorem Tryz.lays118:Go.Proofs.Lays.n118 Tryz.prog Tryz.lays118_ren:={
 mixed:=by kernel_rfl
 f118:=ff func335
 t3:=underlying3
 a3:=isAgg3
 z3:=sizeOf3
 v3:=zeroValue3
 t4:=underlying4
 a4:=isAgg4
 z4:=sizeOf4
 v4:=zeroValue4
 t21:=underlying21
 a21:=isAgg21
 z21:=sizeOf21
 v21:=zeroValue21 }
theorem Tryz.utf8_RuneLen (r:Int) (w:World) :
    Calls Tryz.prog 335 #[.int .i32 r] w fun e w'=>e=.returned (.int .i64 (Lib.runeLen r))/\w'=w:=Any.utf8_RuneLen Tryz.lays118 r w
def Tryz.lays119_ren:Go.Shelf.Ren:=⟨fun | 119=>368 | n=>n,fun | 21=>21 | 4=>4 | n=>n,fun | n=>n⟩
theorem Tryz.lays119:Go.Proofs.Lays.n119 Tryz.prog Tryz.lays119_ren:={
 mixed:=by kernel_rfl
 f119:=ff func368
 t4:=underlying4
 a4:=isAgg4
 z4:=sizeOf4
 v4:=zeroValue4
 t21:=underlying21
 a21:=isAgg21
 z21:=sizeOf21
 v21:=zeroValue21 }
theorem Tryz.utf8_ValidRune (r:Int) (w:World) :
    Calls Tryz.prog 368 #[.int .i32 r] w fun e w'=>e=.returned (.bool (Lib.validRune r))/\w'=w:=Any.utf8_ValidRune Tryz.lays119 r w
def Tryz.lays125_ren:Go.Shelf.Ren:=⟨fun | 125=>82 | 128=>140 | 129=>141 | n=>n,fun | 46=>149 | 3=>3 | 51=>214 | 53=>216 | 4=>4 | 5=>5 | 9=>9 | n=>n,fun | n=>n⟩
theorem Tryz.lays125:Go.Proofs.Lays.n125 Tryz.prog Tryz.lays125_ren:={
 mixed:=by kernel_rfl
 f125:=ff func82
 f128:=ff func140
 f129:=ff func141
 t3:=underlying3
 a3:=isAgg3
 z3:=sizeOf3
 v3:=zeroValue3
 t4:=underlying4
 a4:=isAgg4
 z4:=sizeOf4
 v4:=zeroValue4
 t5:=underlying5
 a5:=isAgg5
 z5:=sizeOf5
 v5:=zeroValue5
 t9:=underlying9
 a9:=isAgg9
 z9:=sizeOf9
 v9:=zeroValue9
 t46:=underlying149
 a46:=isAgg149
 z46:=sizeOf149
 v46:=zeroValue149
 t51:=underlying214
 a51:=isAgg214
 z51:=sizeOf214
 v51:=zeroValue214
 t53:=underlying216
 a53:=isAgg216
 z53:=sizeOf216
 v53:=zeroValue216 }
theorem Tryz.bits_Len (x:Int) (w:World) (h0:0<=x) (h1:x<=18446744073709551615) :
    Calls Tryz.prog 82 #[.int .u64 x] w fun e w'=>e=.returned (.int .i64 (Lib.bitLen x.toNat))/\w'=w:=Any.bits_Len Tryz.lays125 x w h0 h1
def Tryz.lays137_ren:Go.Shelf.Ren:=⟨fun | 137=>367 | 217=>223 | 266=>290 | n=>n,fun | 9=>9 | 5=>5 | 3=>3 | n=>n,fun | n=>n⟩
theorem Tryz.lays137:Go.Proofs.Lays.n137 Tryz.prog Tryz.lays137_ren:={
 mixed:=by kernel_rfl
 f137:=ff func367
 f217:=ff func223
 f266:=ff func290
 t3:=underlying3
 a3:=isAgg3
 z3:=sizeOf3
 v3:=zeroValue3
 t5:=underlying5
 a5:=isAgg5
 z5:=sizeOf5
 v5:=zeroValue5
 t9:=underlying9
 a9:=isAgg9
 z9:=sizeOf9
 v9:=zeroValue9 }
open Go.RowKit in
theorem Tryz.strings_IndexByte (s:ByteArray) (c:Int) (w:World) :
    Calls Tryz.prog 367 #[.string s,.int .u8 c] w fun e w'=>e=.returned (.int .i64 (Lib.indexByte s.data.toList c.toNat.toUInt8))/\w'=w:=Any.strings_IndexByte Tryz.lays137 s c w
def Tryz.lays103_ren:Go.Shelf.Ren:=⟨fun | 103=>233 | 210=>298 | 206=>338 | n=>n,fun | 9=>9 | 4=>4 | 24=>307 | 3=>3 | n=>n,fun | n=>n⟩
theorem Tryz.lays103:Go.Proofs.Lays.n103 Tryz.prog Tryz.lays103_ren:={
 mixed:=by kernel_rfl
 f103:=ff func233
 f206:=ff func338
 f210:=ff func298
 t3:=underlying3
 a3:=isAgg3
 z3:=sizeOf3
 v3:=zeroValue3
 t4:=underlying4
 a4:=isAgg4
 z4:=sizeOf4
 v4:=zeroValue4
 t9:=underlying9
 a9:=isAgg9
 z9:=sizeOf9
 v9:=zeroValue9
 t24:=underlying307
 a24:=isAgg307
 z24:=sizeOf307
 v24:=zeroValue307 }
open Go.RowKit in
theorem Tryz.strings_CutPrefix (s p:ByteArray) (w:World) :
    Calls Tryz.prog 233 #[.string s,.string p] w fun e w'=>e=.returned (.tuple #[.string ⟨(Lib.trimPrefix s.data.toList p.data.toList).toArray⟩,.bool (Lib.hasPrefix s.data.toList p.data.toList)])/\w'=w:=Any.strings_CutPrefix Tryz.lays103 s p w
def Tryz.lays122_ren:Go.Shelf.Ren:=⟨fun | 122=>136 | 215=>214 | n=>n,fun | 3=>3 | 4=>4 | n=>n,fun | n=>n⟩
theorem Tryz.lays122:Go.Proofs.Lays.n122 Tryz.prog Tryz.lays122_ren:={
 mixed:=by kernel_rfl
 f122:=ff func136
 f215:=ff func214
 t3:=underlying3
 a3:=isAgg3
 z3:=sizeOf3
 v3:=zeroValue3
 t4:=underlying4
 a4:=isAgg4
 z4:=sizeOf4
 v4:=zeroValue4 }
open Go.RowKit in
theorem Tryz.cmp_Compare_int (x y:Int) (w:World) :
    Calls Tryz.prog 136 #[.int .i64 x,.int .i64 y] w fun e w'=>e=.returned (.int .i64 (Lib.compareInt x y))/\w'=w:=Any.cmp_Compare_int Tryz.lays122 x y w
def Tryz.lays242_ren:Go.Shelf.Ren:=⟨fun | 242=>337 | 278=>370 | n=>n,fun | 37=>32 | 21=>21 | 51=>214 | 4=>4 | 5=>5 | 46=>149 | n=>n,fun | n=>n⟩
theorem Tryz.lays242:Go.Proofs.Lays.n242 Tryz.prog Tryz.lays242_ren:={
 mixed:=by kernel_rfl
 f242:=ff func337
 f278:=ff func370
 t4:=underlying4
 a4:=isAgg4
 z4:=sizeOf4
 v4:=zeroValue4
 t5:=underlying5
 a5:=isAgg5
 z5:=sizeOf5
 v5:=zeroValue5
 t21:=underlying21
 a21:=isAgg21
 z21:=sizeOf21
 v21:=zeroValue21
 t37:=underlying32
 a37:=isAgg32
 z37:=sizeOf32
 v37:=zeroValue32
 t46:=underlying149
 a46:=isAgg149
 z46:=sizeOf149
 v46:=zeroValue149
 t51:=underlying214
 a51:=isAgg214
 z51:=sizeOf214
 v51:=zeroValue214 }
open Go.RowKit in
theorem Tryz.utf8_AppendRune_plain (B:Nat) (v:Value) (n:Nat) (xs:List Value) (r:Int) (hr0 : -2147483648<=r) (hr1:r<=2147483647) (w:World) (hown:w.ownsRow B 5 1 v n xs) (hlen:n+4<=140737488355328) (hBw:B<=w.heap.size) :
    Calls Tryz.prog 337 #[v,.int .i32 r] w fun e w'=>∃v',e=.returned v'/\w'.ownsRow B 5 1 v' (n+(Lib.runeCells r).length) (xs++Lib.runeCells r)/\∃o,(w.alloc o).grownBy w' v.ownBlock:=Any.utf8_AppendRune_plain Tryz.lays242 (by kernel_rfl) B v n xs r hr0 hr1 w hown hlen hBw
def Tryz.lays145_ren:Go.Shelf.Ren:=⟨fun | 145=>46 | 220=>107 | 219=>152 | 217=>223 | 225=>224 | 224=>225 | 267=>226 | 266=>290 | 314=>291 | n=>n,fun | 9=>9 | 4=>4 | 59=>112 | 3=>3 | 5=>5 | 46=>149 | 146=>356 | 51=>214 | n=>n,fun | 1=>2 | n=>n⟩
theorem Tryz.lays145:Go.Proofs.Lays.n145 Tryz.prog Tryz.lays145_ren:={
 mixed:=by kernel_rfl
 f145:=ff func46
 f217:=ff func223
 f219:=ff func152
 f220:=ff func107
 f224:=ff func225
 f225:=ff func224
 f266:=ff func290
 f267:=ff func226
 f314:=ff func291
 t3:=underlying3
 a3:=isAgg3
 z3:=sizeOf3
 v3:=zeroValue3
 t4:=underlying4
 a4:=isAgg4
 z4:=sizeOf4
 v4:=zeroValue4
 t5:=underlying5
 a5:=isAgg5
 z5:=sizeOf5
 v5:=zeroValue5
 t9:=underlying9
 a9:=isAgg9
 z9:=sizeOf9
 v9:=zeroValue9
 t46:=underlying149
 a46:=isAgg149
 z46:=sizeOf149
 v46:=zeroValue149
 t51:=underlying214
 a51:=isAgg214
 z51:=sizeOf214
 v51:=zeroValue214
 t59:=underlying112
 a59:=isAgg112
 z59:=sizeOf112
 v59:=zeroValue112
 t146:=underlying356
 a146:=isAgg356
 z146:=sizeOf356
 v146:=zeroValue356
 g1:=by kernel_rfl }
open Go.RowKit Go.Lib in
theorem Tryz.strings_Cut (s sep:ByteArray) (m:Int) (w:World) (hs:s.size<4294967281) (hm:w.cell? ⟨2,0,none⟩=some (.int .i64 m)) :
    Calls Tryz.prog 46 #[.string s,.string sep] w fun e w'=>e=.returned (.tuple #[.string ⟨(Lib.cut s.data.toList sep.data.toList).1.toArray⟩,.string ⟨(Lib.cut s.data.toList sep.data.toList).2.1.toArray⟩,.bool (Lib.cut s.data.toList sep.data.toList).2.2])/\∃n,w'=w.drewN n:=Any.strings_Cut Tryz.lays145 s sep m w hs hm
def Tryz.laysM219_ren:Go.Shelf.Ren:=⟨fun | 219=>152 | 217=>223 | 225=>224 | 224=>225 | 267=>226 | 266=>290 | 314=>291 | n=>n,fun | 9=>9 | 3=>3 | 4=>4 | 5=>5 | 46=>149 | 146=>356 | 51=>214 | n=>n,fun | 1=>2 | n=>n⟩
theorem Tryz.laysM219:Go.Proofs.LaysM.n219 Tryz.prog Tryz.laysM219_ren:={
 mixed:=by kernel_rfl
 f217:=ff func223
 f219:=ff func152
 f224:=ff func225
 f225:=ff func224
 f266:=ff func290
 f267:=ff func226
 f314:=ff func291
 t3:=underlying3
 a3:=isAgg3
 z3:=sizeOf3
 v3:=zeroValue3
 t4:=underlying4
 a4:=isAgg4
 z4:=sizeOf4
 v4:=zeroValue4
 t5:=underlying5
 a5:=isAgg5
 z5:=sizeOf5
 v5:=zeroValue5
 t9:=underlying9
 a9:=isAgg9
 z9:=sizeOf9
 v9:=zeroValue9
 t46:=underlying149
 a46:=isAgg149
 z46:=sizeOf149
 v46:=zeroValue149
 t51:=underlying214
 a51:=isAgg214
 z51:=sizeOf214
 v51:=zeroValue214
 t146:=underlying356
 a146:=isAgg356
 z146:=sizeOf356
 v146:=zeroValue356
 g1:=by kernel_rfl
 i3:=by kernel_rfl
 i4:=by kernel_rfl
 i5:=by kernel_rfl
 i9:=by kernel_rfl
 i46:=by kernel_rfl
 i51:=by kernel_rfl
 i146:=by kernel_rfl
 m1:=by kernel_rfl
 s1_3:=fun w h=>Go.Proofs.cell_of_shapedOpen_int (zero:=#[.int .i64 0]) (t:=3) h (of_decide_eq_true (by kernel_rfl)) (by kernel_rfl) rfl (by kernel_rfl) (by kernel_rfl) underlying3 }
def Tryz.lays272_ren:Go.Shelf.Ren:=⟨fun | 272=>234 | 315=>299 | n=>n,fun | 9=>9 | 40=>234 | 4=>4 | 3=>3 | 0=>0 | 21=>21 | n=>n,fun | n=>n⟩
theorem Tryz.lays272:Go.Proofs.Lays.n272 Tryz.prog Tryz.lays272_ren:={
 mixed:=by kernel_rfl
 f272:=ff func234
 f315:=ff func299
 t0:=underlying0
 a0:=isAgg0
 z0:=sizeOf0
 v0:=zeroValue0
 t3:=underlying3
 a3:=isAgg3
 z3:=sizeOf3
 v3:=zeroValue3
 t4:=underlying4
 a4:=isAgg4
 z4:=sizeOf4
 v4:=zeroValue4
 t9:=underlying9
 a9:=isAgg9
 z9:=sizeOf9
 v9:=zeroValue9
 t21:=underlying21
 a21:=isAgg21
 z21:=sizeOf21
 v21:=zeroValue21
 t40:=underlying234
 a40:=isAgg234
 z40:=sizeOf234
 v40:=zeroValue234 }
def Tryz.laysGw17_ren:Go.Shelf.Ren:=⟨fun | 17=>330 | 15=>363 | 20=>299 | n=>n,fun | 9=>9 | 23=>234 | 4=>4 | 3=>3 | 0=>0 | 21=>21 | n=>n,fun | n=>n⟩
theorem Tryz.laysGw17:Go.Proofs.LaysGw.n17 Tryz.prog Tryz.laysGw17_ren:={
 mixed:=by kernel_rfl
 f15:=ff func363
 f17:=ff func330
 f20:=ff func299
 t0:=underlying0
 a0:=isAgg0
 z0:=sizeOf0
 v0:=zeroValue0
 i0:=by kernel_rfl
 t3:=underlying3
 a3:=isAgg3
 z3:=sizeOf3
 v3:=zeroValue3
 i3:=by kernel_rfl
 t4:=underlying4
 a4:=isAgg4
 z4:=sizeOf4
 v4:=zeroValue4
 i4:=by kernel_rfl
 t9:=underlying9
 a9:=isAgg9
 z9:=sizeOf9
 v9:=zeroValue9
 i9:=by kernel_rfl
 t21:=underlying21
 a21:=isAgg21
 z21:=sizeOf21
 v21:=zeroValue21
 i21:=by kernel_rfl
 t23:=underlying234
 a23:=isAgg234
 z23:=sizeOf234
 v23:=zeroValue234
 i23:=by kernel_rfl }
def Tryz.lays102_ren:Go.Shelf.Ren:=⟨fun | 102=>47 | 209=>108 | 207=>153 | n=>n,fun | 9=>9 | 4=>4 | 3=>3 | n=>n,fun | n=>n⟩
theorem Tryz.lays102:Go.Proofs.Lays.n102 Tryz.prog Tryz.lays102_ren:={
 mixed:=by kernel_rfl
 f102:=ff func47
 f207:=ff func153
 f209:=ff func108
 t3:=underlying3
 a3:=isAgg3
 z3:=sizeOf3
 v3:=zeroValue3
 t4:=underlying4
 a4:=isAgg4
 z4:=sizeOf4
 v4:=zeroValue4
 t9:=underlying9
 a9:=isAgg9
 z9:=sizeOf9
 v9:=zeroValue9 }
open Go.RowKit Go.Lib in
theorem Tryz.strings_TrimSuffix (s p:ByteArray) (w:World) (hs:s.size<=9223372036854775807) :
    Calls Tryz.prog 47 #[.string s,.string p] w fun e w'=>e=.returned (.string ⟨(Lib.trimSuffix s.data.toList p.data.toList).toArray⟩)/\w'=w:=Any.strings_TrimSuffix Tryz.lays102 s p w hs
def Tryz.lays146_ren:Go.Shelf.Ren:=⟨fun | 146=>286 | 221=>332 | 268=>364 | 138=>365 | 143=>366 | 195=>379 | 197=>231 | 218=>380 | 219=>152 | 260=>294 | 217=>223 | 225=>224 | 224=>225 | 267=>226 | 266=>290 | 314=>291 | n=>n,fun | 9=>9 | 31=>38 | 3=>3 | 4=>4 | 0=>0 | 105=>304 | 21=>21 | 5=>5 | 46=>149 | 119=>228 | 139=>231 | 138=>230 | 146=>356 | 51=>214 | n=>n,fun | 1=>2 | 3=>0 | 4=>1 | n=>n⟩
theorem Tryz.lays146:Go.Proofs.Lays.n146 Tryz.prog Tryz.lays146_ren:={
 mixed:=by kernel_rfl
 f138:=ff func365
 f143:=ff func366
 f146:=ff func286
 f195:=ff func379
 f197:=ff func231
 f217:=ff func223
 f218:=ff func380
 f219:=ff func152
 f221:=ff func332
 f224:=ff func225
 f225:=ff func224
 f260:=ff func294
 f266:=ff func290
 f267:=ff func226
 f268:=ff func364
 f314:=ff func291
 t0:=underlying0
 a0:=isAgg0
 z0:=sizeOf0
 v0:=zeroValue0
 t3:=underlying3
 a3:=isAgg3
 z3:=sizeOf3
 v3:=zeroValue3
 t4:=underlying4
 a4:=isAgg4
 z4:=sizeOf4
 v4:=zeroValue4
 t5:=underlying5
 a5:=isAgg5
 z5:=sizeOf5
 v5:=zeroValue5
 t9:=underlying9
 a9:=isAgg9
 z9:=sizeOf9
 v9:=zeroValue9
 t21:=underlying21
 a21:=isAgg21
 z21:=sizeOf21
 v21:=zeroValue21
 t31:=underlying38
 a31:=isAgg38
 z31:=sizeOf38
 v31:=zeroValue38
 t46:=underlying149
 a46:=isAgg149
 z46:=sizeOf149
 v46:=zeroValue149
 t51:=underlying214
 a51:=isAgg214
 z51:=sizeOf214
 v51:=zeroValue214
 t105:=underlying304
 a105:=isAgg304
 z105:=sizeOf304
 v105:=zeroValue304
 t119:=underlying228
 a119:=isAgg228
 z119:=sizeOf228
 t138:=underlying230
 a138:=isAgg230
 z138:=sizeOf230
 v138:=zeroValue230
 t139:=underlying231
 a139:=isAgg231
 z139:=sizeOf231
 v139:=zeroValue231
 t146:=underlying356
 a146:=isAgg356
 z146:=sizeOf356
 v146:=zeroValue356
 g1:=by kernel_rfl
 g3:=by kernel_rfl
 g4:=by kernel_rfl }
open Go.RowKit Go.Lib in
theorem Tryz.strings_Split (s sep:ByteArray) (m:Int) (w:World) (hs:s.size<4294967281) (hm:w.cell? ⟨2,0,none⟩=some (.int .i64 m)) (h1:1<=sep.size) :
    Calls Tryz.prog 286 #[.string s,.string sep] w fun e w'=>
     e=.returned (.slice (some ⟨w.heap.size,0,none⟩) (Lib.countB s sep+1) (Lib.countB s sep+1))/\w'=w.alloc (.cells ((Lib.splitB sep 0 (Lib.countB s sep) s).map Value.string).toArray 9):=Any.strings_Split Tryz.lays146 (by kernel_rfl) s sep m w hs hm h1
def Tryz.lays204_ren:Go.Shelf.Ren:=⟨fun | 204=>302 | 262=>341 | 313=>372 | 274=>381 | 275=>382 | n=>n,fun | 21=>21 | 4=>4 | 3=>3 | 162=>433 | 203=>431 | 160=>440 | 46=>149 | 0=>0 | 208=>452 | 51=>214 | 206=>450 | n=>n,fun | 13=>4 | n=>n⟩
theorem Tryz.lays204:Go.Proofs.Lays.n204 Tryz.prog Tryz.lays204_ren:={
 mixed:=by kernel_rfl
 f204:=ff func302
 f262:=ff func341
 f274:=ff func381
 f275:=ff func382
 f313:=ff func372
 t0:=underlying0
 a0:=isAgg0
 z0:=sizeOf0
 v0:=zeroValue0
 t3:=underlying3
 a3:=isAgg3
 z3:=sizeOf3
 v3:=zeroValue3
 t4:=underlying4
 a4:=isAgg4
 z4:=sizeOf4
 v4:=zeroValue4
 t21:=underlying21
 a21:=isAgg21
 z21:=sizeOf21
 v21:=zeroValue21
 t46:=underlying149
 a46:=isAgg149
 z46:=sizeOf149
 v46:=zeroValue149
 t51:=underlying214
 a51:=isAgg214
 z51:=sizeOf214
 v51:=zeroValue214
 t160:=underlying440
 a160:=isAgg440
 z160:=sizeOf440
 v160:=zeroValue440
 t162:=underlying433
 a162:=isAgg433
 z162:=sizeOf433
 v162:=zeroValue433
 t203:=underlying431
 a203:=isAgg431
 z203:=sizeOf431
 v203:=zeroValue431
 t206:=underlying450
 a206:=isAgg450
 z206:=sizeOf450
 v206:=zeroValue450
 t208:=underlying452
 a208:=isAgg452
 z208:=sizeOf452
 v208:=zeroValue452
 g13:=by kernel_rfl }
def Tryz.lays197_ren:Go.Shelf.Ren:=⟨fun | 197=>231 | 260=>294 | n=>n,fun | 9=>9 | 21=>21 | 3=>3 | 4=>4 | 5=>5 | 105=>304 | 119=>228 | 0=>0 | 46=>149 | 139=>231 | 138=>230 | n=>n,fun | 3=>0 | 4=>1 | n=>n⟩
theorem Tryz.lays197:Go.Proofs.Lays.n197 Tryz.prog Tryz.lays197_ren:={
 mixed:=by kernel_rfl
 f197:=ff func231
 f260:=ff func294
 t0:=underlying0
 a0:=isAgg0
 z0:=sizeOf0
 v0:=zeroValue0
 t3:=underlying3
 a3:=isAgg3
 z3:=sizeOf3
 v3:=zeroValue3
 t4:=underlying4
 a4:=isAgg4
 z4:=sizeOf4
 v4:=zeroValue4
 t5:=underlying5
 a5:=isAgg5
 z5:=sizeOf5
 v5:=zeroValue5
 t9:=underlying9
 a9:=isAgg9
 z9:=sizeOf9
 v9:=zeroValue9
 t21:=underlying21
 a21:=isAgg21
 z21:=sizeOf21
 v21:=zeroValue21
 t46:=underlying149
 a46:=isAgg149
 z46:=sizeOf149
 v46:=zeroValue149
 t105:=underlying304
 a105:=isAgg304
 z105:=sizeOf304
 v105:=zeroValue304
 t119:=underlying228
 a119:=isAgg228
 z119:=sizeOf228
 t138:=underlying230
 a138:=isAgg230
 z138:=sizeOf230
 v138:=zeroValue230
 t139:=underlying231
 a139:=isAgg231
 z139:=sizeOf231
 v139:=zeroValue231
 g3:=by kernel_rfl
 g4:=by kernel_rfl }
def Tryz.lays152_ren:Go.Shelf.Ren:=⟨fun | 152=>334 | 137=>367 | 119=>368 | 224=>225 | 225=>224 | 217=>223 | 266=>290 | n=>n,fun | 9=>9 | 21=>21 | 3=>3 | 4=>4 | 5=>5 | 0=>0 | 46=>149 | n=>n,fun | n=>n⟩
theorem Tryz.lays152:Go.Proofs.Lays.n152 Tryz.prog Tryz.lays152_ren:={
 mixed:=by kernel_rfl
 f119:=ff func368
 f137:=ff func367
 f152:=ff func334
 f217:=ff func223
 f224:=ff func225
 f225:=ff func224
 f266:=ff func290
 t0:=underlying0
 a0:=isAgg0
 z0:=sizeOf0
 v0:=zeroValue0
 t3:=underlying3
 a3:=isAgg3
 z3:=sizeOf3
 v3:=zeroValue3
 t4:=underlying4
 a4:=isAgg4
 z4:=sizeOf4
 v4:=zeroValue4
 t5:=underlying5
 a5:=isAgg5
 z5:=sizeOf5
 v5:=zeroValue5
 t9:=underlying9
 a9:=isAgg9
 z9:=sizeOf9
 v9:=zeroValue9
 t21:=underlying21
 a21:=isAgg21
 z21:=sizeOf21
 v21:=zeroValue21
 t46:=underlying149
 a46:=isAgg149
 z46:=sizeOf149
 v46:=zeroValue149 }
open Go.RowKit Go.Lib in
theorem Tryz.strings_IndexRune_ascii (s:ByteArray) (r:Int) (w:World) (h0:0<=r) (h1:r<128) :
    Calls Tryz.prog 334 #[.string s,.int .i32 r] w fun e w'=>e=.returned (.int .i64 (Lib.indexByte s.data.toList r.toNat.toUInt8))/\w'=w:=Any.strings_IndexRune_ascii Tryz.lays152 s r w h0 h1
def Tryz.lays151_ren:Go.Shelf.Ren:=⟨fun | 151=>293 | 152=>334 | 137=>367 | 119=>368 | 224=>225 | 225=>224 | 217=>223 | 266=>290 | n=>n,fun | 9=>9 | 21=>21 | 4=>4 | 3=>3 | 5=>5 | 0=>0 | 46=>149 | n=>n,fun | n=>n⟩
theorem Tryz.lays151:Go.Proofs.Lays.n151 Tryz.prog Tryz.lays151_ren:={
 mixed:=by kernel_rfl
 f119:=ff func368
 f137:=ff func367
 f151:=ff func293
 f152:=ff func334
 f217:=ff func223
 f224:=ff func225
 f225:=ff func224
 f266:=ff func290
 t0:=underlying0
 a0:=isAgg0
 z0:=sizeOf0
 v0:=zeroValue0
 t3:=underlying3
 a3:=isAgg3
 z3:=sizeOf3
 v3:=zeroValue3
 t4:=underlying4
 a4:=isAgg4
 z4:=sizeOf4
 v4:=zeroValue4
 t5:=underlying5
 a5:=isAgg5
 z5:=sizeOf5
 v5:=zeroValue5
 t9:=underlying9
 a9:=isAgg9
 z9:=sizeOf9
 v9:=zeroValue9
 t21:=underlying21
 a21:=isAgg21
 z21:=sizeOf21
 v21:=zeroValue21
 t46:=underlying149
 a46:=isAgg149
 z46:=sizeOf149
 v46:=zeroValue149 }
open Go.RowKit Go.Lib in
theorem Tryz.strings_ContainsRune_ascii (s:ByteArray) (r:Int) (w:World) (h0:0<=r) (h1:r<128) :
    Calls Tryz.prog 293 #[.string s,.int .i32 r] w fun e w'=>e=.returned (.bool (decide (0<=Lib.indexByte s.data.toList r.toNat.toUInt8)))/\w'=w:=Any.strings_ContainsRune_ascii Tryz.lays151 s r w h0 h1
open Go.RowKit Go.Lib in
theorem Tryz.utf8_DecodeRuneInString (s:ByteArray) (w:World) (hT:Lib.Utf8Tabs 0 1 w) :
    Calls Tryz.prog 231 #[.string s] w fun e w'=>e=.returned (.tuple #[.int .i32 (Lib.decodeGo s).1,.int .i64 (Lib.decodeGo s).2])/\Below w.heap.size w w':=Any.utf8_DecodeRuneInString Tryz.lays197 s w hT
open Go.RowKit Go.Lib in
theorem Tryz.strings_TrimLeftFunc_grows (g:Nat) (lb:Array Value) (eg:∀args w,(callFunc g args).run Tryz.prog w=.ok (.enter g args) w) (p:Nat->Bool) (s:ByteArray) (w:World) (hp:PredGrows Tryz.prog g lb p w) :
    Calls Tryz.prog 234 #[.string s,.func (.func g) #[] lb] w fun e w'=>e=.returned (.string (Lib.trimLeftF p s))/\Below w.heap.size w w':=Any.strings_TrimLeftFunc_grows Tryz.lays272 g lb eg p s w hp
open Go.RowKit Go.Lib in
theorem Tryz.strings_ContainsFunc_grows (g:Nat) (lb:Array Value) (eg:∀args w,(callFunc g args).run Tryz.prog w=.ok (.enter g args) w) (p:Nat->Bool) (s:ByteArray) (w:World) (hp:PredGrows Tryz.prog g lb p w) :
    Calls Tryz.prog 330 #[.string s,.func (.func g) #[] lb] w fun e w'=>e=.returned (.bool (decide (0<=Lib.idxFunc p true s)))/\Below w.heap.size w w':=Any.strings_ContainsFunc_grows Tryz.laysGw17 g lb eg p s w hp
end Go.Proofs
end
