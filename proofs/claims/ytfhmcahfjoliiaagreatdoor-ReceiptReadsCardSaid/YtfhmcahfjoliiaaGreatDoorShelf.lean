/- The library functions of this program by the kit's contracts, in plain words (written by the kit's lay-shelf and lay-plain). No conditions. -/
import Derived.Shelf.Strings.Builder1
import Derived.Shelf.Strings.Builder2
import Derived.Shelf.Strings.OnBuilder
import Derived.Shelf.Strings.Trim
import Derived.Shelf.Small.Utf8
import Derived.Shelf.Small.Strs
import Derived.Shelf.Small.Wraps
import Derived.Shelf.Strings.BuilderF
import Derived.Shelf.Strings.BuilderK
import Derived.Shelf.Utf8.RuneCount
import Derived.Shelf.Strings.Builder2Cap
import Derived.Shelf.Strconv.Atoi
import Derived.Shelf.Strconv.Itoa0
import Derived.Shelf.Strconv.Itoa1
import Derived.Shelf.LaysM
import Derived.Shelf.Strconv.Itoa2
import Derived.Shelf.Strconv.Itoa3
import Derived.Shelf.Strconv.AtoiErrFast
import Derived.Shelf.Strconv.ParseIntEmpty
import Derived.Shelf.Strconv.AtoiFail
import Derived.Shelf.Strconv.Clone
import Derived.Shelf.Strconv.SyntaxError
import Derived.Shelf.LaysC
import Derived.Shelf.Strconv.ToError
import Derived.Shelf.Strconv.AtoiErr
import Derived.Shelf.Strconv.ErrVar
import Derived.Shelf.Strconv.Lower
import Derived.Shelf.Strconv.ParseUint10
import Derived.Shelf.Strconv.ParseUint10Empty
import Derived.Shelf.Strconv.ParseUint10Any
import Derived.Shelf.Strconv.ParseInt10
import Derived.Shelf.Strconv.AtoiLong
import Derived.Shelf.Strconv.AtoiInnerAll
import Derived.Shelf.Strconv.RangeError
import Derived.Shelf.Strconv.ToErrorRange
import Derived.Shelf.Strconv.AtoiAll
import Derived.Shelf.Strconv.ErrVarAll
import Derived.Shelf.Strconv.ParseUintEmpty
import Derived.Shelf.Strconv.ParseUint10b64
import Derived.Shelf.Strconv.ParseUint10b32
import Derived.Shelf.Strconv.ParseUint10b16
import Derived.Shelf.Strconv.ParseUint10b8
import Derived.Shelf.Strconv.ParseUint10At
import Derived.Shelf.Strconv.ParseInt10At64
import Derived.Shelf.Strconv.ParseInt10At32
import Derived.Shelf.Strconv.ParseInt10At16
import Derived.Shelf.Strconv.ParseInt10At8
import Derived.Shelf.Strconv.ParseInt10All
import Derived.Shelf.Strings.Search1
import Derived.Shelf.Strings.Search2
import Derived.Shelf.Strings.Search3
import Derived.Shelf.Strings.Cut
import Derived.Shelf.Strings.Count
import Derived.Shelf.Strings.Shaped
import Derived.Shelf.Strings.Prefix
import Derived.Shelf.Strings.Split
import Derived.Shelf.Strings.Replace
import Derived.Shelf.Strings.SplitShaped
import Derived.Shelf.Unicode.Decode
import Derived.Shelf.Strings.Runes
import Derived.Shelf.Strings.RuneCount
import Derived.Shelf.Strings.AsciiSet
import Derived.Shelf.Strings.Explode
import Derived.Shelf.Unicode.DecodeSlow
import Derived.Shelf.Unicode.DecodeAny
import Derived.Shelf.Strings.BuilderCap
import Derived.Test.YtfhmcahfjoliiaaGreatDoorProg
namespace Go.Proofs
open Go.Shelf
def Tryz.lays169_ren:Go.Shelf.Ren:=⟨fun | 169=>33 | n=>n,fun | 70=>57 | 9=>9 | 0=>0 | 72=>60 | 37=>58 | 127=>93 | 3=>3 | 5=>5 | n=>n,fun | n=>n⟩
def Tryz.lays241_ren:Go.Shelf.Ren:=⟨fun | 241=>76 | 277=>103 | n=>n,fun | 70=>57 | 3=>3 | 0=>0 | 72=>60 | 37=>58 | 5=>5 | n=>n,fun | n=>n⟩
def Tryz.lays165_ren:Go.Shelf.Ren:=⟨fun | 165=>47 | 240=>75 | 241=>76 | 276=>102 | 277=>103 | n=>n,fun | 70=>57 | 3=>3 | 0=>0 | 4=>4 | 9=>9 | 20=>20 | 72=>60 | 37=>58 | 164=>136 | 5=>5 | n=>n,fun | n=>n⟩
def Tryz.lays156_ren:Go.Shelf.Ren:=⟨fun | 156=>61 | 165=>47 | 166=>48 | 169=>33 | 240=>75 | 241=>76 | 276=>102 | 277=>103 | n=>n,fun | 31=>31 | 9=>9 | 3=>3 | 4=>4 | 0=>0 | 20=>20 | 72=>60 | 76=>44 | 70=>57 | 37=>58 | 75=>43 | 127=>93 | 164=>136 | 5=>5 | 80=>68 | n=>n,fun | n=>n⟩
theorem Tryz.lays156:Go.Proofs.Lays.n156 Tryz.prog Tryz.lays156_ren:={
  mixed:=by kernel_rfl
  f156:=Tryz.func61.trans (congrArg some (by kernel_rfl))
  f165:=Tryz.func47.trans (congrArg some (by kernel_rfl))
  f166:=Tryz.func48.trans (congrArg some (by kernel_rfl))
  f169:=Tryz.func33.trans (congrArg some (by kernel_rfl))
  f240:=Tryz.func75.trans (congrArg some (by kernel_rfl))
  f241:=Tryz.func76.trans (congrArg some (by kernel_rfl))
  f276:=Tryz.func102.trans (congrArg some (by kernel_rfl))
  f277:=Tryz.func103.trans (congrArg some (by kernel_rfl))
  t0:=Tryz.underlying0
  a0:=Tryz.isAgg0
  z0:=Tryz.sizeOf0
  v0:=Tryz.zeroValue0
  t3:=Tryz.underlying3
  a3:=Tryz.isAgg3
  z3:=Tryz.sizeOf3
  v3:=Tryz.zeroValue3
  t4:=Tryz.underlying4
  a4:=Tryz.isAgg4
  z4:=Tryz.sizeOf4
  v4:=Tryz.zeroValue4
  t9:=Tryz.underlying9
  a9:=Tryz.isAgg9
  z9:=Tryz.sizeOf9
  v9:=Tryz.zeroValue9
  t20:=Tryz.underlying20
  a20:=Tryz.isAgg20
  z20:=Tryz.sizeOf20
  v20:=Tryz.zeroValue20
  t31:=Tryz.underlying31
  a31:=Tryz.isAgg31
  z31:=Tryz.sizeOf31
  v31:=Tryz.zeroValue31
  t37:=Tryz.underlying58
  a37:=Tryz.isAgg58
  z37:=Tryz.sizeOf58
  v37:=Tryz.zeroValue58
  t70:=Tryz.underlying57
  a70:=Tryz.isAgg57
  z70:=Tryz.sizeOf57
  v70:=Tryz.zeroValue57
  t72:=Tryz.underlying60
  a72:=Tryz.isAgg60
  z72:=Tryz.sizeOf60
  v72:=Tryz.zeroValue60
  t75:=Tryz.underlying43
  a75:=Tryz.isAgg43
  z75:=Tryz.sizeOf43
  v75:=Tryz.zeroValue43
  t76:=Tryz.underlying44
  a76:=Tryz.isAgg44
  z76:=Tryz.sizeOf44
  v76:=Tryz.zeroValue44
  t127:=Tryz.underlying93
  a127:=Tryz.isAgg93
  z127:=Tryz.sizeOf93
  v127:=Tryz.zeroValue93
  t164:=Tryz.underlying136
  a164:=Tryz.isAgg136
  z164:=Tryz.sizeOf136
  v164:=Tryz.zeroValue136 }
theorem Tryz.Builder_Extra_156:Builder.Extra Tryz.prog Tryz.lays156_ren:={
  sizeBuilder:=by kernel_rfl
  liesBuilder:=by kernel_rfl
  t5:=Tryz.underlying5
  a5:=Tryz.isAgg5
  z5:=Tryz.sizeOf5
  v5:=Tryz.zeroValue5
  infoByte:=by kernel_rfl
  cellsByte:=by kernel_rfl
  sizeByte:=by kernel_rfl
  neB5:=by decide }
open Go.RowKit in
/-- strings.Join: "Join concatenates the elements of its first argument to create a single string. The separator string sep is placed between elements in the resulting string.": HOWEVER MANY ELEMENTS. Below the heap's end the world is as it was. (LAID: no walk: one application.) -/
theorem Tryz.strings_Join (bk o c:Nat) (xs:List ByteArray) (sep:ByteArray) (w:World) (hcells:∀ (j:Nat) x,xs[j]?=some x→w.cell? ⟨bk,o+j,none⟩=some (.string x)) (hbk:bk < w.heap.size) (hN:xs.length≤140737488355328) (hcap:xs.length≤c) (hlen:(Lib.join (xs.map (·.data.toList)) sep.data.toList).length≤140737488355328):
    Calls Tryz.prog 61 #[.slice (some ⟨bk,o,none⟩) xs.length c,.string sep] w fun e w'=>e=.returned (.string ⟨(Lib.join (xs.map (·.data.toList)) sep.data.toList).toArray⟩)∧Below w.heap.size w w':=Any.strings_Join Tryz.lays156 Tryz.Builder_Extra_156 bk o c xs sep w hcells hbk hN hcap hlen
def Tryz.lays231_ren:Go.Shelf.Ren:=⟨fun | 231=>106 | n=>n,fun | 9=>9 | 5=>5 | 3=>3 | 4=>4 | n=>n,fun | n=>n⟩
def Tryz.lays161_ren:Go.Shelf.Ren:=⟨fun | 161=>82 | 231=>106 | 227=>107 | 233=>108 | 235=>109 | 228=>127 | 197=>49 | 151=>128 | 260=>77 | 152=>149 | 137=>152 | 119=>153 | 224=>71 | 225=>70 | 217=>69 | 266=>100 | n=>n,fun | 9=>9 | 4=>4 | 3=>3 | 5=>5 | 117=>150 | 116=>149 | 0=>0 | 124=>153 | 105=>76 | 21=>21 | 119=>139 | 46=>98 | 139=>142 | 138=>141 | n=>n,fun | 3=>3 | 4=>4 | n=>n⟩
theorem Tryz.lays161:Go.Proofs.Lays.n161 Tryz.prog Tryz.lays161_ren:={
  mixed:=by kernel_rfl
  f119:=Tryz.func153.trans (congrArg some (by kernel_rfl))
  f137:=Tryz.func152.trans (congrArg some (by kernel_rfl))
  f151:=Tryz.func128.trans (congrArg some (by kernel_rfl))
  f152:=Tryz.func149.trans (congrArg some (by kernel_rfl))
  f161:=Tryz.func82.trans (congrArg some (by kernel_rfl))
  f197:=Tryz.func49.trans (congrArg some (by kernel_rfl))
  f217:=Tryz.func69.trans (congrArg some (by kernel_rfl))
  f224:=Tryz.func71.trans (congrArg some (by kernel_rfl))
  f225:=Tryz.func70.trans (congrArg some (by kernel_rfl))
  f227:=Tryz.func107.trans (congrArg some (by kernel_rfl))
  f228:=Tryz.func127.trans (congrArg some (by kernel_rfl))
  f231:=Tryz.func106.trans (congrArg some (by kernel_rfl))
  f233:=Tryz.func108.trans (congrArg some (by kernel_rfl))
  f235:=Tryz.func109.trans (congrArg some (by kernel_rfl))
  f260:=Tryz.func77.trans (congrArg some (by kernel_rfl))
  f266:=Tryz.func100.trans (congrArg some (by kernel_rfl))
  t0:=Tryz.underlying0
  a0:=Tryz.isAgg0
  z0:=Tryz.sizeOf0
  v0:=Tryz.zeroValue0
  t3:=Tryz.underlying3
  a3:=Tryz.isAgg3
  z3:=Tryz.sizeOf3
  v3:=Tryz.zeroValue3
  t4:=Tryz.underlying4
  a4:=Tryz.isAgg4
  z4:=Tryz.sizeOf4
  v4:=Tryz.zeroValue4
  t5:=Tryz.underlying5
  a5:=Tryz.isAgg5
  z5:=Tryz.sizeOf5
  v5:=Tryz.zeroValue5
  t9:=Tryz.underlying9
  a9:=Tryz.isAgg9
  z9:=Tryz.sizeOf9
  v9:=Tryz.zeroValue9
  t21:=Tryz.underlying21
  a21:=Tryz.isAgg21
  z21:=Tryz.sizeOf21
  v21:=Tryz.zeroValue21
  t46:=Tryz.underlying98
  a46:=Tryz.isAgg98
  z46:=Tryz.sizeOf98
  v46:=Tryz.zeroValue98
  t105:=Tryz.underlying76
  a105:=Tryz.isAgg76
  z105:=Tryz.sizeOf76
  v105:=Tryz.zeroValue76
  t116:=Tryz.underlying149
  a116:=Tryz.isAgg149
  z116:=Tryz.sizeOf149
  t117:=Tryz.underlying150
  a117:=Tryz.isAgg150
  z117:=Tryz.sizeOf150
  v117:=Tryz.zeroValue150
  t119:=Tryz.underlying139
  a119:=Tryz.isAgg139
  z119:=Tryz.sizeOf139
  t124:=Tryz.underlying153
  a124:=Tryz.isAgg153
  z124:=Tryz.sizeOf153
  v124:=Tryz.zeroValue153
  t138:=Tryz.underlying141
  a138:=Tryz.isAgg141
  z138:=Tryz.sizeOf141
  v138:=Tryz.zeroValue141
  t139:=Tryz.underlying142
  a139:=Tryz.isAgg142
  z139:=Tryz.sizeOf142
  v139:=Tryz.zeroValue142
  g3:=by kernel_rfl
  g4:=by kernel_rfl }
open Go.RowKit in
/-- strings.TrimLeft: "TrimLeft returns a slice of the string s with all leading Unicode code points contained in cutset removed.": AT A cutset OF ONE ASCII BYTE. The world is as it was. (LAID: no walk: one application.) -/
theorem Tryz.strings_TrimLeft_one (s:ByteArray) (c:UInt8) (hc:c.toNat < 128) (w:World):
    Calls Tryz.prog 82 #[.string s,.string ⟨#[c]⟩] w fun e w'=>e=.returned (.string ⟨(Lib.trimLeftB s.data.toList c).toArray⟩)∧w'=w:=Any.strings_TrimLeft_one Tryz.lays161 s c hc w
def Tryz.lays119_ren:Go.Shelf.Ren:=⟨fun | 119=>153 | n=>n,fun | 21=>21 | 4=>4 | n=>n,fun | n=>n⟩
def Tryz.lays137_ren:Go.Shelf.Ren:=⟨fun | 137=>152 | 217=>69 | 266=>100 | n=>n,fun | 9=>9 | 5=>5 | 3=>3 | n=>n,fun | n=>n⟩
def Tryz.lays210_ren:Go.Shelf.Ren:=⟨fun | 210=>55 | 206=>81 | n=>n,fun | 9=>9 | 4=>4 | 3=>3 | n=>n,fun | n=>n⟩
def Tryz.lays103_ren:Go.Shelf.Ren:=⟨fun | 103=>25 | 210=>55 | 206=>81 | n=>n,fun | 9=>9 | 4=>4 | 24=>54 | 3=>3 | n=>n,fun | n=>n⟩
theorem Tryz.lays103:Go.Proofs.Lays.n103 Tryz.prog Tryz.lays103_ren:={
  mixed:=by kernel_rfl
  f103:=Tryz.func25.trans (congrArg some (by kernel_rfl))
  f206:=Tryz.func81.trans (congrArg some (by kernel_rfl))
  f210:=Tryz.func55.trans (congrArg some (by kernel_rfl))
  t3:=Tryz.underlying3
  a3:=Tryz.isAgg3
  z3:=Tryz.sizeOf3
  v3:=Tryz.zeroValue3
  t4:=Tryz.underlying4
  a4:=Tryz.isAgg4
  z4:=Tryz.sizeOf4
  v4:=Tryz.zeroValue4
  t9:=Tryz.underlying9
  a9:=Tryz.isAgg9
  z9:=Tryz.sizeOf9
  v9:=Tryz.zeroValue9
  t24:=Tryz.underlying54
  a24:=Tryz.isAgg54
  z24:=Tryz.sizeOf54
  v24:=Tryz.zeroValue54 }
open Go.RowKit in
/-- strings.CutPrefix: "CutPrefix returns s without the provided leading prefix string and reports whether it found the prefix. If s doesn't start with prefix, CutPrefix returns s, false. If prefix is the empty string, CutPrefix returns s, true.": IT RETURNS '(Lib.trimPrefix s p, Lib.hasPrefix s p)'; the world is as it was. (LAID: no walk: one application.) -/
theorem Tryz.strings_CutPrefix (s p:ByteArray) (w:World):
    Calls Tryz.prog 25 #[.string s,.string p] w fun e w'=>e=.returned (.tuple #[.string ⟨(Lib.trimPrefix s.data.toList p.data.toList).toArray⟩,.bool (Lib.hasPrefix s.data.toList p.data.toList)])∧w'=w:=Any.strings_CutPrefix Tryz.lays103 s p w
def Tryz.lays195_ren:Go.Shelf.Ren:=⟨fun | 195=>67 | n=>n,fun | 9=>9 | 3=>3 | 0=>0 | 4=>4 | n=>n,fun | n=>n⟩
def Tryz.lays244_ren:Go.Shelf.Ren:=⟨fun | 244=>23 | 247=>50 | 287=>78 | 321=>104 | 322=>105 | n=>n,fun | 9=>9 | 3=>3 | 75=>43 | 4=>4 | 5=>5 | 167=>78 | 37=>58 | 0=>0 | 85=>79 | 2=>2 | 53=>101 | 175=>102 | 46=>98 | 21=>21 | 80=>68 | n=>n,fun | n=>n⟩
def Tryz.lays172_ren:Go.Shelf.Ren:=⟨fun | 172=>10 | 244=>23 | 245=>24 | 247=>50 | 279=>51 | 280=>52 | 281=>53 | 282=>54 | 287=>78 | 316=>79 | 171=>29 | 205=>80 | 321=>104 | 322=>105 | 243=>59 | 246=>89 | 283=>115 | 284=>116 | 285=>117 | 286=>118 | 129=>135 | 317=>134 | 318=>136 | 319=>137 | 320=>138 | 337=>150 | 338=>151 | n=>n,fun | 9=>9 | 3=>3 | 75=>43 | 76=>44 | 4=>4 | 5=>5 | 167=>78 | 37=>58 | 0=>0 | 85=>79 | 2=>2 | 168=>81 | 53=>101 | 175=>102 | 46=>98 | 210=>105 | 127=>93 | 145=>146 | 143=>144 | 21=>21 | 171=>160 | 173=>163 | 212=>177 | 51=>109 | 20=>20 | 213=>178 | 232=>192 | 233=>193 | 80=>68 | n=>n,fun | 15=>1 | 16=>2 | 17=>6 | 18=>7 | 19=>8 | n=>n⟩
theorem Tryz.lays172:Go.Proofs.Lays.n172 Tryz.prog Tryz.lays172_ren:={
  mixed:=by kernel_rfl
  f129:=Tryz.func135.trans (congrArg some (by kernel_rfl))
  f171:=Tryz.func29.trans (congrArg some (by kernel_rfl))
  f172:=Tryz.func10.trans (congrArg some (by kernel_rfl))
  f205:=Tryz.func80.trans (congrArg some (by kernel_rfl))
  f243:=Tryz.func59.trans (congrArg some (by kernel_rfl))
  f244:=Tryz.func23.trans (congrArg some (by kernel_rfl))
  f245:=Tryz.func24.trans (congrArg some (by kernel_rfl))
  f246:=Tryz.func89.trans (congrArg some (by kernel_rfl))
  f247:=Tryz.func50.trans (congrArg some (by kernel_rfl))
  f279:=Tryz.func51.trans (congrArg some (by kernel_rfl))
  f280:=Tryz.func52.trans (congrArg some (by kernel_rfl))
  f281:=Tryz.func53.trans (congrArg some (by kernel_rfl))
  f282:=Tryz.func54.trans (congrArg some (by kernel_rfl))
  f283:=Tryz.func115.trans (congrArg some (by kernel_rfl))
  f284:=Tryz.func116.trans (congrArg some (by kernel_rfl))
  f285:=Tryz.func117.trans (congrArg some (by kernel_rfl))
  f286:=Tryz.func118.trans (congrArg some (by kernel_rfl))
  f287:=Tryz.func78.trans (congrArg some (by kernel_rfl))
  f316:=Tryz.func79.trans (congrArg some (by kernel_rfl))
  f317:=Tryz.func134.trans (congrArg some (by kernel_rfl))
  f318:=Tryz.func136.trans (congrArg some (by kernel_rfl))
  f319:=Tryz.func137.trans (congrArg some (by kernel_rfl))
  f320:=Tryz.func138.trans (congrArg some (by kernel_rfl))
  f321:=Tryz.func104.trans (congrArg some (by kernel_rfl))
  f322:=Tryz.func105.trans (congrArg some (by kernel_rfl))
  f337:=Tryz.func150.trans (congrArg some (by kernel_rfl))
  f338:=Tryz.func151.trans (congrArg some (by kernel_rfl))
  t0:=Tryz.underlying0
  a0:=Tryz.isAgg0
  z0:=Tryz.sizeOf0
  v0:=Tryz.zeroValue0
  t2:=Tryz.underlying2
  a2:=Tryz.isAgg2
  z2:=Tryz.sizeOf2
  v2:=Tryz.zeroValue2
  t3:=Tryz.underlying3
  a3:=Tryz.isAgg3
  z3:=Tryz.sizeOf3
  v3:=Tryz.zeroValue3
  t4:=Tryz.underlying4
  a4:=Tryz.isAgg4
  z4:=Tryz.sizeOf4
  v4:=Tryz.zeroValue4
  t5:=Tryz.underlying5
  a5:=Tryz.isAgg5
  z5:=Tryz.sizeOf5
  v5:=Tryz.zeroValue5
  t9:=Tryz.underlying9
  a9:=Tryz.isAgg9
  z9:=Tryz.sizeOf9
  v9:=Tryz.zeroValue9
  t20:=Tryz.underlying20
  a20:=Tryz.isAgg20
  z20:=Tryz.sizeOf20
  v20:=Tryz.zeroValue20
  t21:=Tryz.underlying21
  a21:=Tryz.isAgg21
  z21:=Tryz.sizeOf21
  v21:=Tryz.zeroValue21
  t37:=Tryz.underlying58
  a37:=Tryz.isAgg58
  z37:=Tryz.sizeOf58
  v37:=Tryz.zeroValue58
  t46:=Tryz.underlying98
  a46:=Tryz.isAgg98
  z46:=Tryz.sizeOf98
  v46:=Tryz.zeroValue98
  t51:=Tryz.underlying109
  a51:=Tryz.isAgg109
  z51:=Tryz.sizeOf109
  v51:=Tryz.zeroValue109
  t53:=Tryz.underlying101
  a53:=Tryz.isAgg101
  z53:=Tryz.sizeOf101
  v53:=Tryz.zeroValue101
  t75:=Tryz.underlying43
  a75:=Tryz.isAgg43
  z75:=Tryz.sizeOf43
  v75:=Tryz.zeroValue43
  t76:=Tryz.underlying44
  a76:=Tryz.isAgg44
  z76:=Tryz.sizeOf44
  v76:=Tryz.zeroValue44
  t85:=Tryz.underlying79
  a85:=Tryz.isAgg79
  z85:=Tryz.sizeOf79
  v85:=Tryz.zeroValue79
  t127:=Tryz.underlying93
  a127:=Tryz.isAgg93
  z127:=Tryz.sizeOf93
  v127:=Tryz.zeroValue93
  t143:=Tryz.underlying144
  a143:=Tryz.isAgg144
  z143:=Tryz.sizeOf144
  v143:=Tryz.zeroValue144
  t145:=Tryz.underlying146
  a145:=Tryz.isAgg146
  z145:=Tryz.sizeOf146
  v145:=Tryz.zeroValue146
  t167:=Tryz.underlying78
  a167:=Tryz.isAgg78
  z167:=Tryz.sizeOf78
  v167:=Tryz.zeroValue78
  t168:=Tryz.underlying81
  a168:=Tryz.isAgg81
  z168:=Tryz.sizeOf81
  v168:=Tryz.zeroValue81
  t171:=Tryz.underlying160
  a171:=Tryz.isAgg160
  z171:=Tryz.sizeOf160
  v171:=Tryz.zeroValue160
  t173:=Tryz.underlying163
  a173:=Tryz.isAgg163
  z173:=Tryz.sizeOf163
  v173:=Tryz.zeroValue163
  t175:=Tryz.underlying102
  a175:=Tryz.isAgg102
  z175:=Tryz.sizeOf102
  v175:=Tryz.zeroValue102
  t210:=Tryz.underlying105
  a210:=Tryz.isAgg105
  z210:=Tryz.sizeOf105
  v210:=Tryz.zeroValue105
  t212:=Tryz.underlying177
  a212:=Tryz.isAgg177
  z212:=Tryz.sizeOf177
  v212:=Tryz.zeroValue177
  t213:=Tryz.underlying178
  a213:=Tryz.isAgg178
  z213:=Tryz.sizeOf178
  t232:=Tryz.underlying192
  a232:=Tryz.isAgg192
  z232:=Tryz.sizeOf192
  v232:=Tryz.zeroValue192
  t233:=Tryz.underlying193
  a233:=Tryz.isAgg193
  z233:=Tryz.sizeOf193
  v233:=Tryz.zeroValue193
  g15:=by kernel_rfl
  g16:=by kernel_rfl
  g17:=by kernel_rfl
  g18:=by kernel_rfl
  g19:=by kernel_rfl }
open Go.RowKit in
/-- strconv.Atoi: "Atoi is equivalent to ParseInt(s, 10, 0), converted to type int.": AT A DECIMAL NUMERAL OF AT MOST 18 BYTES: its value, and a nil error. The world behind the call: the one new row that the library's '[]byte(s)' lays. (LAID: no walk: one application.) -/
theorem Tryz.strconv_Atoi (s:ByteArray) (n:Int) (hl:s.size≤18) (h:Lib.atoi s.data.toList=some n) (w:World):
    Calls Tryz.prog 10 #[.string s] w fun e w'=>e=.returned (.tuple #[.int .i64 n,.nilIface])∧∃ t,w'=Lib.bytesWorld w 5 t:=Any.strconv_Atoi Tryz.lays172 s n hl h w
def Tryz.lays129_ren:Go.Shelf.Ren:=⟨fun | 129=>135 | n=>n,fun | 53=>101 | 3=>3 | 4=>4 | 46=>98 | 5=>5 | 9=>9 | n=>n,fun | n=>n⟩
def Tryz.lays317_ren:Go.Shelf.Ren:=⟨fun | 317=>134 | n=>n,fun | 3=>3 | 46=>98 | n=>n,fun | n=>n⟩
def Tryz.lays318_ren:Go.Shelf.Ren:=⟨fun | 318=>136 | n=>n,fun | 3=>3 | 4=>4 | n=>n,fun | n=>n⟩
def Tryz.lays283_ren:Go.Shelf.Ren:=⟨fun | 283=>115 | n=>n,fun | 3=>3 | 9=>9 | 4=>4 | n=>n,fun | n=>n⟩
def Tryz.laysM284_ren:Go.Shelf.Ren:=⟨fun | 284=>116 | 129=>135 | 317=>134 | 318=>136 | n=>n,fun | 53=>101 | 3=>3 | 212=>177 | 0=>0 | 4=>4 | 46=>98 | 5=>5 | 9=>9 | n=>n,fun | 17=>6 | n=>n⟩
def Tryz.lays285_ren:Go.Shelf.Ren:=⟨fun | 285=>117 | n=>n,fun | 37=>58 | 53=>101 | 3=>3 | 4=>4 | 51=>109 | 9=>9 | 5=>5 | 0=>0 | n=>n,fun | n=>n⟩
def Tryz.laysM246_ren:Go.Shelf.Ren:=⟨fun | 246=>89 | 283=>115 | 284=>116 | 285=>117 | 286=>118 | 129=>135 | 317=>134 | 318=>136 | 319=>137 | 320=>138 | 337=>150 | 338=>151 | n=>n,fun | 2=>2 | 3=>3 | 9=>9 | 4=>4 | 171=>160 | 0=>0 | 53=>101 | 37=>58 | 5=>5 | 173=>163 | 212=>177 | 51=>109 | 20=>20 | 213=>178 | 46=>98 | 232=>192 | 233=>193 | n=>n,fun | 17=>6 | 18=>7 | 19=>8 | n=>n⟩
def Tryz.lays246_ren:Go.Shelf.Ren:=⟨fun | 246=>89 | 283=>115 | 284=>116 | 285=>117 | 286=>118 | 129=>135 | 317=>134 | 318=>136 | 319=>137 | 320=>138 | 337=>150 | 338=>151 | n=>n,fun | 2=>2 | 3=>3 | 9=>9 | 4=>4 | 171=>160 | 0=>0 | 53=>101 | 37=>58 | 5=>5 | 173=>163 | 212=>177 | 51=>109 | 20=>20 | 213=>178 | 46=>98 | 232=>192 | 233=>193 | n=>n,fun | 17=>6 | 18=>7 | 19=>8 | n=>n⟩
def Tryz.laysM243_ren:Go.Shelf.Ren:=⟨fun | 243=>59 | 246=>89 | 283=>115 | 284=>116 | 285=>117 | 286=>118 | 129=>135 | 317=>134 | 318=>136 | 319=>137 | 320=>138 | 337=>150 | 338=>151 | n=>n,fun | 3=>3 | 9=>9 | 2=>2 | 4=>4 | 171=>160 | 0=>0 | 53=>101 | 37=>58 | 5=>5 | 173=>163 | 212=>177 | 51=>109 | 20=>20 | 213=>178 | 46=>98 | 232=>192 | 233=>193 | n=>n,fun | 17=>6 | 18=>7 | 19=>8 | n=>n⟩
def Tryz.lays243_ren:Go.Shelf.Ren:=⟨fun | 243=>59 | 246=>89 | 283=>115 | 284=>116 | 285=>117 | 286=>118 | 129=>135 | 317=>134 | 318=>136 | 319=>137 | 320=>138 | 337=>150 | 338=>151 | n=>n,fun | 3=>3 | 9=>9 | 2=>2 | 4=>4 | 171=>160 | 0=>0 | 53=>101 | 37=>58 | 5=>5 | 173=>163 | 212=>177 | 51=>109 | 20=>20 | 213=>178 | 46=>98 | 232=>192 | 233=>193 | n=>n,fun | 17=>6 | 18=>7 | 19=>8 | n=>n⟩
def Tryz.laysM171_ren:Go.Shelf.Ren:=⟨fun | 171=>29 | 243=>59 | 246=>89 | 283=>115 | 284=>116 | 285=>117 | 286=>118 | 129=>135 | 317=>134 | 318=>136 | 319=>137 | 320=>138 | 337=>150 | 338=>151 | n=>n,fun | 3=>3 | 9=>9 | 2=>2 | 4=>4 | 171=>160 | 0=>0 | 53=>101 | 37=>58 | 5=>5 | 173=>163 | 212=>177 | 51=>109 | 20=>20 | 213=>178 | 46=>98 | 232=>192 | 233=>193 | n=>n,fun | 17=>6 | 18=>7 | 19=>8 | n=>n⟩
theorem Tryz.laysM171:Go.Proofs.LaysM.n171 Tryz.prog Tryz.laysM171_ren:={
  mixed:=by kernel_rfl
  f129:=Tryz.func135.trans (congrArg some (by kernel_rfl))
  f171:=Tryz.func29.trans (congrArg some (by kernel_rfl))
  f243:=Tryz.func59.trans (congrArg some (by kernel_rfl))
  f246:=Tryz.func89.trans (congrArg some (by kernel_rfl))
  f283:=Tryz.func115.trans (congrArg some (by kernel_rfl))
  f284:=Tryz.func116.trans (congrArg some (by kernel_rfl))
  f285:=Tryz.func117.trans (congrArg some (by kernel_rfl))
  f286:=Tryz.func118.trans (congrArg some (by kernel_rfl))
  f317:=Tryz.func134.trans (congrArg some (by kernel_rfl))
  f318:=Tryz.func136.trans (congrArg some (by kernel_rfl))
  f319:=Tryz.func137.trans (congrArg some (by kernel_rfl))
  f320:=Tryz.func138.trans (congrArg some (by kernel_rfl))
  f337:=Tryz.func150.trans (congrArg some (by kernel_rfl))
  f338:=Tryz.func151.trans (congrArg some (by kernel_rfl))
  t0:=Tryz.underlying0
  a0:=Tryz.isAgg0
  z0:=Tryz.sizeOf0
  v0:=Tryz.zeroValue0
  t2:=Tryz.underlying2
  a2:=Tryz.isAgg2
  z2:=Tryz.sizeOf2
  v2:=Tryz.zeroValue2
  t3:=Tryz.underlying3
  a3:=Tryz.isAgg3
  z3:=Tryz.sizeOf3
  v3:=Tryz.zeroValue3
  t4:=Tryz.underlying4
  a4:=Tryz.isAgg4
  z4:=Tryz.sizeOf4
  v4:=Tryz.zeroValue4
  t5:=Tryz.underlying5
  a5:=Tryz.isAgg5
  z5:=Tryz.sizeOf5
  v5:=Tryz.zeroValue5
  t9:=Tryz.underlying9
  a9:=Tryz.isAgg9
  z9:=Tryz.sizeOf9
  v9:=Tryz.zeroValue9
  t20:=Tryz.underlying20
  a20:=Tryz.isAgg20
  z20:=Tryz.sizeOf20
  v20:=Tryz.zeroValue20
  t37:=Tryz.underlying58
  a37:=Tryz.isAgg58
  z37:=Tryz.sizeOf58
  v37:=Tryz.zeroValue58
  t46:=Tryz.underlying98
  a46:=Tryz.isAgg98
  z46:=Tryz.sizeOf98
  v46:=Tryz.zeroValue98
  t51:=Tryz.underlying109
  a51:=Tryz.isAgg109
  z51:=Tryz.sizeOf109
  v51:=Tryz.zeroValue109
  t53:=Tryz.underlying101
  a53:=Tryz.isAgg101
  z53:=Tryz.sizeOf101
  v53:=Tryz.zeroValue101
  t171:=Tryz.underlying160
  a171:=Tryz.isAgg160
  z171:=Tryz.sizeOf160
  v171:=Tryz.zeroValue160
  t173:=Tryz.underlying163
  a173:=Tryz.isAgg163
  z173:=Tryz.sizeOf163
  v173:=Tryz.zeroValue163
  t212:=Tryz.underlying177
  a212:=Tryz.isAgg177
  z212:=Tryz.sizeOf177
  v212:=Tryz.zeroValue177
  t213:=Tryz.underlying178
  a213:=Tryz.isAgg178
  z213:=Tryz.sizeOf178
  t232:=Tryz.underlying192
  a232:=Tryz.isAgg192
  z232:=Tryz.sizeOf192
  v232:=Tryz.zeroValue192
  t233:=Tryz.underlying193
  a233:=Tryz.isAgg193
  z233:=Tryz.sizeOf193
  v233:=Tryz.zeroValue193
  g17:=by kernel_rfl
  g18:=by kernel_rfl
  g19:=by kernel_rfl
  i0:=by kernel_rfl
  i2:=by kernel_rfl
  i3:=by kernel_rfl
  i4:=by kernel_rfl
  i5:=by kernel_rfl
  i9:=by kernel_rfl
  i20:=by kernel_rfl
  i37:=by kernel_rfl
  i46:=by kernel_rfl
  i51:=by kernel_rfl
  i53:=by kernel_rfl
  i171:=by kernel_rfl
  i173:=by kernel_rfl
  i212:=by kernel_rfl
  i232:=by kernel_rfl
  i233:=by kernel_rfl
  m17:=by kernel_rfl
  m18:=by kernel_rfl
  m19:=by kernel_rfl }
open Go.RowKit Go.Sort Go.Lib in
/-- strconv.Itoa: "Itoa is equivalent to FormatInt(int64(i), 10).": i's DECIMAL NUMERAL ('Lib.itoa': a '-' where i is negative, then the digits), FOR EVERY int. The world behind the call: the world before it, new blocks behind the heap (the library's 'var a [24]byte'), draws. (LAID: no walk: one application.) -/
theorem Tryz.strconv_Itoa (n : Int) (h0 : -9223372036854775808 ≤ n) (h1 : n ≤ 9223372036854775807) (w : World) (htab : Lib.TabIs Tryz.prog w "internal/strconv.uint64pow10" .u64 Lib.pow10Tab) :
    Calls Tryz.prog 29 #[.int .i64 n] w fun e w'=>e=.returned (.string ⟨(Lib.itoa n).toArray⟩)∧∃ k os,w'=grow (w.drewN k) os:=Any.strconv_Itoa Tryz.laysM171 n h0 h1 w htab
def Tryz.lays171_ren:Go.Shelf.Ren:=⟨fun | 171=>29 | 243=>59 | 246=>89 | 283=>115 | 284=>116 | 285=>117 | 286=>118 | 129=>135 | 317=>134 | 318=>136 | 319=>137 | 320=>138 | 337=>150 | 338=>151 | n=>n,fun | 3=>3 | 9=>9 | 2=>2 | 4=>4 | 171=>160 | 0=>0 | 53=>101 | 37=>58 | 5=>5 | 173=>163 | 212=>177 | 51=>109 | 20=>20 | 213=>178 | 46=>98 | 232=>192 | 233=>193 | n=>n,fun | 17=>6 | 18=>7 | 19=>8 | n=>n⟩
def Tryz.lays247_ren:Go.Shelf.Ren:=⟨fun | 247=>50 | 287=>78 | 321=>104 | 322=>105 | n=>n,fun | 9=>9 | 3=>3 | 2=>2 | 75=>43 | 4=>4 | 167=>78 | 5=>5 | 53=>101 | 175=>102 | 46=>98 | 37=>58 | 0=>0 | 21=>21 | 80=>68 | n=>n,fun | n=>n⟩
def Tryz.laysM316_ren:Go.Shelf.Ren:=⟨fun | 316=>79 | n=>n,fun | 9=>9 | 3=>3 | 4=>4 | 37=>58 | 0=>0 | 127=>93 | 5=>5 | n=>n,fun | n=>n⟩
def Tryz.laysM279_ren:Go.Shelf.Ren:=⟨fun | 279=>51 | 316=>79 | n=>n,fun | 9=>9 | 168=>81 | 75=>43 | 210=>105 | 3=>3 | 4=>4 | 37=>58 | 0=>0 | 127=>93 | 80=>68 | 5=>5 | n=>n,fun | 15=>1 | n=>n⟩
def Tryz.laysC245_ren:Go.Shelf.Ren:=⟨fun | 245=>24 | 279=>51 | 280=>52 | 281=>53 | 282=>54 | 316=>79 | 171=>29 | 205=>80 | 243=>59 | 246=>89 | 283=>115 | 284=>116 | 285=>117 | 286=>118 | 129=>135 | 317=>134 | 318=>136 | 319=>137 | 320=>138 | 337=>150 | 338=>151 | n=>n,fun | 9=>9 | 3=>3 | 75=>43 | 167=>78 | 4=>4 | 168=>81 | 210=>105 | 37=>58 | 0=>0 | 127=>93 | 145=>146 | 143=>144 | 2=>2 | 171=>160 | 53=>101 | 5=>5 | 173=>163 | 212=>177 | 51=>109 | 20=>20 | 213=>178 | 46=>98 | 232=>192 | 233=>193 | 80=>68 | n=>n,fun | 15=>1 | 16=>2 | 17=>6 | 18=>7 | 19=>8 | n=>n⟩
def Tryz.laysC172_ren:Go.Shelf.Ren:=⟨fun | 172=>10 | 244=>23 | 245=>24 | 247=>50 | 279=>51 | 280=>52 | 281=>53 | 282=>54 | 287=>78 | 316=>79 | 171=>29 | 205=>80 | 321=>104 | 322=>105 | 243=>59 | 246=>89 | 283=>115 | 284=>116 | 285=>117 | 286=>118 | 129=>135 | 317=>134 | 318=>136 | 319=>137 | 320=>138 | 337=>150 | 338=>151 | n=>n,fun | 9=>9 | 3=>3 | 75=>43 | 76=>44 | 4=>4 | 5=>5 | 167=>78 | 37=>58 | 0=>0 | 85=>79 | 2=>2 | 168=>81 | 53=>101 | 175=>102 | 46=>98 | 210=>105 | 127=>93 | 145=>146 | 143=>144 | 21=>21 | 171=>160 | 173=>163 | 212=>177 | 51=>109 | 20=>20 | 213=>178 | 232=>192 | 233=>193 | 80=>68 | n=>n,fun | 15=>1 | 16=>2 | 17=>6 | 18=>7 | 19=>8 | n=>n⟩
theorem Tryz.laysC172:Go.Proofs.LaysC.n172 Tryz.prog Tryz.laysC172_ren:={
  mixed:=by kernel_rfl
  f129:=Tryz.func135.trans (congrArg some (by kernel_rfl))
  f171:=Tryz.func29.trans (congrArg some (by kernel_rfl))
  f172:=Tryz.func10.trans (congrArg some (by kernel_rfl))
  f205:=Tryz.func80.trans (congrArg some (by kernel_rfl))
  f243:=Tryz.func59.trans (congrArg some (by kernel_rfl))
  f244:=Tryz.func23.trans (congrArg some (by kernel_rfl))
  f245:=Tryz.func24.trans (congrArg some (by kernel_rfl))
  f246:=Tryz.func89.trans (congrArg some (by kernel_rfl))
  f247:=Tryz.func50.trans (congrArg some (by kernel_rfl))
  f279:=Tryz.func51.trans (congrArg some (by kernel_rfl))
  f280:=Tryz.func52.trans (congrArg some (by kernel_rfl))
  f281:=Tryz.func53.trans (congrArg some (by kernel_rfl))
  f282:=Tryz.func54.trans (congrArg some (by kernel_rfl))
  f283:=Tryz.func115.trans (congrArg some (by kernel_rfl))
  f284:=Tryz.func116.trans (congrArg some (by kernel_rfl))
  f285:=Tryz.func117.trans (congrArg some (by kernel_rfl))
  f286:=Tryz.func118.trans (congrArg some (by kernel_rfl))
  f287:=Tryz.func78.trans (congrArg some (by kernel_rfl))
  f316:=Tryz.func79.trans (congrArg some (by kernel_rfl))
  f317:=Tryz.func134.trans (congrArg some (by kernel_rfl))
  f318:=Tryz.func136.trans (congrArg some (by kernel_rfl))
  f319:=Tryz.func137.trans (congrArg some (by kernel_rfl))
  f320:=Tryz.func138.trans (congrArg some (by kernel_rfl))
  f321:=Tryz.func104.trans (congrArg some (by kernel_rfl))
  f322:=Tryz.func105.trans (congrArg some (by kernel_rfl))
  f337:=Tryz.func150.trans (congrArg some (by kernel_rfl))
  f338:=Tryz.func151.trans (congrArg some (by kernel_rfl))
  t0:=Tryz.underlying0
  a0:=Tryz.isAgg0
  z0:=Tryz.sizeOf0
  v0:=Tryz.zeroValue0
  t2:=Tryz.underlying2
  a2:=Tryz.isAgg2
  z2:=Tryz.sizeOf2
  v2:=Tryz.zeroValue2
  t3:=Tryz.underlying3
  a3:=Tryz.isAgg3
  z3:=Tryz.sizeOf3
  v3:=Tryz.zeroValue3
  t4:=Tryz.underlying4
  a4:=Tryz.isAgg4
  z4:=Tryz.sizeOf4
  v4:=Tryz.zeroValue4
  t5:=Tryz.underlying5
  a5:=Tryz.isAgg5
  z5:=Tryz.sizeOf5
  v5:=Tryz.zeroValue5
  t9:=Tryz.underlying9
  a9:=Tryz.isAgg9
  z9:=Tryz.sizeOf9
  v9:=Tryz.zeroValue9
  t20:=Tryz.underlying20
  a20:=Tryz.isAgg20
  z20:=Tryz.sizeOf20
  v20:=Tryz.zeroValue20
  t21:=Tryz.underlying21
  a21:=Tryz.isAgg21
  z21:=Tryz.sizeOf21
  v21:=Tryz.zeroValue21
  t37:=Tryz.underlying58
  a37:=Tryz.isAgg58
  z37:=Tryz.sizeOf58
  v37:=Tryz.zeroValue58
  t46:=Tryz.underlying98
  a46:=Tryz.isAgg98
  z46:=Tryz.sizeOf98
  v46:=Tryz.zeroValue98
  t51:=Tryz.underlying109
  a51:=Tryz.isAgg109
  z51:=Tryz.sizeOf109
  v51:=Tryz.zeroValue109
  t53:=Tryz.underlying101
  a53:=Tryz.isAgg101
  z53:=Tryz.sizeOf101
  v53:=Tryz.zeroValue101
  t75:=Tryz.underlying43
  a75:=Tryz.isAgg43
  z75:=Tryz.sizeOf43
  v75:=Tryz.zeroValue43
  t76:=Tryz.underlying44
  a76:=Tryz.isAgg44
  z76:=Tryz.sizeOf44
  v76:=Tryz.zeroValue44
  t85:=Tryz.underlying79
  a85:=Tryz.isAgg79
  z85:=Tryz.sizeOf79
  v85:=Tryz.zeroValue79
  t127:=Tryz.underlying93
  a127:=Tryz.isAgg93
  z127:=Tryz.sizeOf93
  v127:=Tryz.zeroValue93
  t143:=Tryz.underlying144
  a143:=Tryz.isAgg144
  z143:=Tryz.sizeOf144
  v143:=Tryz.zeroValue144
  t145:=Tryz.underlying146
  a145:=Tryz.isAgg146
  z145:=Tryz.sizeOf146
  v145:=Tryz.zeroValue146
  t167:=Tryz.underlying78
  a167:=Tryz.isAgg78
  z167:=Tryz.sizeOf78
  v167:=Tryz.zeroValue78
  t168:=Tryz.underlying81
  a168:=Tryz.isAgg81
  z168:=Tryz.sizeOf81
  v168:=Tryz.zeroValue81
  t171:=Tryz.underlying160
  a171:=Tryz.isAgg160
  z171:=Tryz.sizeOf160
  v171:=Tryz.zeroValue160
  t173:=Tryz.underlying163
  a173:=Tryz.isAgg163
  z173:=Tryz.sizeOf163
  v173:=Tryz.zeroValue163
  t175:=Tryz.underlying102
  a175:=Tryz.isAgg102
  z175:=Tryz.sizeOf102
  v175:=Tryz.zeroValue102
  t210:=Tryz.underlying105
  a210:=Tryz.isAgg105
  z210:=Tryz.sizeOf105
  v210:=Tryz.zeroValue105
  t212:=Tryz.underlying177
  a212:=Tryz.isAgg177
  z212:=Tryz.sizeOf177
  v212:=Tryz.zeroValue177
  t213:=Tryz.underlying178
  a213:=Tryz.isAgg178
  z213:=Tryz.sizeOf178
  t232:=Tryz.underlying192
  a232:=Tryz.isAgg192
  z232:=Tryz.sizeOf192
  v232:=Tryz.zeroValue192
  t233:=Tryz.underlying193
  a233:=Tryz.isAgg193
  z233:=Tryz.sizeOf193
  v233:=Tryz.zeroValue193
  g15:=by kernel_rfl
  g16:=by kernel_rfl
  g17:=by kernel_rfl
  g18:=by kernel_rfl
  g19:=by kernel_rfl
  t80:=Tryz.underlying68
  a80:=Tryz.isAgg68
  z80:=Tryz.sizeOf68
  v80:=Tryz.zeroValue68
  i0:=by kernel_rfl
  i2:=by kernel_rfl
  i3:=by kernel_rfl
  i4:=by kernel_rfl
  i5:=by kernel_rfl
  i9:=by kernel_rfl
  i20:=by kernel_rfl
  i21:=by kernel_rfl
  i37:=by kernel_rfl
  i46:=by kernel_rfl
  i51:=by kernel_rfl
  i53:=by kernel_rfl
  i75:=by kernel_rfl
  i76:=by kernel_rfl
  i80:=by kernel_rfl
  i85:=by kernel_rfl
  i127:=by kernel_rfl
  i143:=by kernel_rfl
  i145:=by kernel_rfl
  i167:=by kernel_rfl
  i168:=by kernel_rfl
  i171:=by kernel_rfl
  i173:=by kernel_rfl
  i175:=by kernel_rfl
  i210:=by kernel_rfl
  i212:=by kernel_rfl
  i232:=by kernel_rfl
  i233:=by kernel_rfl
  m15:=by kernel_rfl
  m16:=by kernel_rfl
  m17:=by kernel_rfl
  m18:=by kernel_rfl
  m19:=by kernel_rfl
  c0:=by kernel_rfl
  c2:=by kernel_rfl
  c3:=by kernel_rfl
  c4:=by kernel_rfl
  c5:=by kernel_rfl
  c9:=by kernel_rfl
  c20:=by kernel_rfl
  c21:=by kernel_rfl
  c37:=by kernel_rfl
  c46:=by kernel_rfl
  c51:=by kernel_rfl
  c53:=by kernel_rfl
  c75:=by kernel_rfl
  c76:=by kernel_rfl
  c80:=by kernel_rfl
  c85:=by kernel_rfl
  c127:=by kernel_rfl
  c143:=by kernel_rfl
  c145:=by kernel_rfl
  c167:=by kernel_rfl
  c168:=by kernel_rfl
  c171:=by kernel_rfl
  c173:=by kernel_rfl
  c175:=by kernel_rfl
  c210:=by kernel_rfl
  c212:=by kernel_rfl
  c213:=by kernel_rfl
  c232:=by kernel_rfl
  c233:=by kernel_rfl }
def Tryz.lays321_ren:Go.Shelf.Ren:=⟨fun | 321=>104 | n=>n,fun | 5=>5 | n=>n,fun | n=>n⟩
def Tryz.lays287_ren:Go.Shelf.Ren:=⟨fun | 287=>78 | 321=>104 | 322=>105 | n=>n,fun | 9=>9 | 3=>3 | 53=>101 | 75=>43 | 4=>4 | 167=>78 | 5=>5 | 46=>98 | 37=>58 | 0=>0 | 21=>21 | 80=>68 | n=>n,fun | n=>n⟩
def Tryz.laysC247_ren:Go.Shelf.Ren:=⟨fun | 247=>50 | 287=>78 | 321=>104 | 322=>105 | n=>n,fun | 9=>9 | 3=>3 | 2=>2 | 75=>43 | 4=>4 | 167=>78 | 5=>5 | 53=>101 | 175=>102 | 46=>98 | 37=>58 | 0=>0 | 21=>21 | 80=>68 | n=>n,fun | n=>n⟩
def Tryz.laysC244_ren:Go.Shelf.Ren:=⟨fun | 244=>23 | 247=>50 | 287=>78 | 321=>104 | 322=>105 | n=>n,fun | 9=>9 | 3=>3 | 75=>43 | 4=>4 | 5=>5 | 167=>78 | 37=>58 | 0=>0 | 85=>79 | 2=>2 | 53=>101 | 175=>102 | 46=>98 | 21=>21 | 80=>68 | n=>n,fun | n=>n⟩
def Tryz.laysM280_ren:Go.Shelf.Ren:=⟨fun | 280=>52 | 316=>79 | n=>n,fun | 9=>9 | 168=>81 | 75=>43 | 210=>105 | 3=>3 | 4=>4 | 37=>58 | 0=>0 | 127=>93 | 80=>68 | 5=>5 | n=>n,fun | 16=>2 | n=>n⟩
open Go.RowKit in
/-- strconv.Atoi, AT EVERY STRING THAT SPELLS AN int ('Lib.atoiAll .. = .ok v'; of whatever length: leading zeros count): v, AND NO ERROR. The world: as it was, or with the one new row that '[]byte(..)' lays. (LAID: no walk: one application.) -/
theorem Tryz.strconv_Atoi_ok (s:ByteArray) (hmax:s.size≤9223372036854775806) (v:Int) (h:Lib.atoiAll s.data.toList=.ok v) (w:World):
    Calls Tryz.prog 10 #[.string s] w fun e w'=>e=.returned (.tuple #[.int .i64 v,.nilIface])∧(w'=w∨∃ t,w'=Lib.bytesWorld w 5 t):=Any.strconv_Atoi_ok Tryz.laysC172 s hmax v h w
open Go.RowKit in
/-- strconv.Atoi, AT EVERY STRING THAT IS NO DECIMAL NUMERAL ('.syntax'): 0, AND AN ERROR THAT IS NOT nil: a *NumError in a new block N: {Func: "Atoi", Num: s's bytes, Err: what the variable ErrSyntax holds}. Of what was there nothing has turned. (LAID: no walk: one application.) -/
theorem Tryz.strconv_Atoi_syntax (s:ByteArray) (hlim:s.size≤281474976710656) (h:Lib.atoiAll s.data.toList=.syntax) (ev:Value) (w:World) (hv:w.cell? ⟨1,0,none⟩=some ev) (hev:ev=.nilIface∨∃ te pe,ev=.iface te pe):
    Calls Tryz.prog 10 #[.string s] w fun e w'=>∃ N,e=.returned (.tuple #[.int .i64 (0),.iface 81 (.pointer (some ⟨N,0,none⟩))])∧w.heap.size≤N∧w'.heap[N]?=some (.cells #[.string ⟨#[65,116,111,105]⟩,.string s,ev] 105 (0,0))∧Below w.heap.size w w':=Any.strconv_Atoi_syntax Tryz.laysC172 s hlim h ev w hv hev
open Go.RowKit in
/-- strconv.Atoi, AT EVERY NUMERAL THAT NO int HOLDS ('.range'): THE GREATEST OR THE LEAST int, BY THE SIGN ('Lib.atoiSat'), AND AN ERROR THAT IS NOT nil: a *NumError in a new block N: {Func: "Atoi", Num: s's bytes, Err: what the variable ErrRange holds}. Of what was there nothing has turned. (LAID: no walk: one application.) -/
theorem Tryz.strconv_Atoi_range (s:ByteArray) (hlim:s.size≤281474976710656) (h:Lib.atoiAll s.data.toList=.range) (ev:Value) (w:World) (hv:w.cell? ⟨2,0,none⟩=some ev) (hev:ev=.nilIface∨∃ te pe,ev=.iface te pe):
    Calls Tryz.prog 10 #[.string s] w fun e w'=>∃ N,e=.returned (.tuple #[.int .i64 (Lib.atoiSat s.data.toList),.iface 81 (.pointer (some ⟨N,0,none⟩))])∧w.heap.size≤N∧w'.heap[N]?=some (.cells #[.string ⟨#[65,116,111,105]⟩,.string s,ev] 105 (0,0))∧Below w.heap.size w w':=Any.strconv_Atoi_range Tryz.laysC172 s hlim h ev w hv hev
def Tryz.lays217_ren:Go.Shelf.Ren:=⟨fun | 217=>69 | 266=>100 | n=>n,fun | 9=>9 | 5=>5 | 3=>3 | n=>n,fun | n=>n⟩
def Tryz.lays224_ren:Go.Shelf.Ren:=⟨fun | 224=>71 | n=>n,fun | 3=>3 | n=>n,fun | n=>n⟩
def Tryz.lays314_ren:Go.Shelf.Ren:=⟨fun | 314=>101 | n=>n,fun | 9=>9 | 51=>109 | 3=>3 | 4=>4 | 5=>5 | 46=>98 | n=>n,fun | n=>n⟩
def Tryz.lays267_ren:Go.Shelf.Ren:=⟨fun | 267=>72 | 314=>101 | n=>n,fun | 9=>9 | 3=>3 | 146=>133 | 51=>109 | 4=>4 | 5=>5 | 46=>98 | n=>n,fun | n=>n⟩
def Tryz.lays219_ren:Go.Shelf.Ren:=⟨fun | 219=>44 | 217=>69 | 225=>70 | 224=>71 | 267=>72 | 266=>100 | 314=>101 | n=>n,fun | 9=>9 | 3=>3 | 4=>4 | 5=>5 | 46=>98 | 146=>133 | 51=>109 | n=>n,fun | 1=>0 | n=>n⟩
def Tryz.lays143_ren:Go.Shelf.Ren:=⟨fun | 143=>43 | 219=>44 | 217=>69 | 225=>70 | 224=>71 | 267=>72 | 266=>100 | 314=>101 | n=>n,fun | 9=>9 | 3=>3 | 4=>4 | 5=>5 | 46=>98 | 146=>133 | 51=>109 | n=>n,fun | 1=>0 | n=>n⟩
def Tryz.lays220_ren:Go.Shelf.Ren:=⟨fun | 220=>19 | 219=>44 | 217=>69 | 225=>70 | 224=>71 | 267=>72 | 266=>100 | 314=>101 | n=>n,fun | 9=>9 | 4=>4 | 3=>3 | 5=>5 | 46=>98 | 146=>133 | 51=>109 | n=>n,fun | 1=>0 | n=>n⟩
def Tryz.lays145_ren:Go.Shelf.Ren:=⟨fun | 145=>7 | 220=>19 | 219=>44 | 217=>69 | 225=>70 | 224=>71 | 267=>72 | 266=>100 | 314=>101 | n=>n,fun | 9=>9 | 4=>4 | 59=>33 | 3=>3 | 5=>5 | 46=>98 | 146=>133 | 51=>109 | n=>n,fun | 1=>0 | n=>n⟩
theorem Tryz.lays145:Go.Proofs.Lays.n145 Tryz.prog Tryz.lays145_ren:={
  mixed:=by kernel_rfl
  f145:=Tryz.func7.trans (congrArg some (by kernel_rfl))
  f217:=Tryz.func69.trans (congrArg some (by kernel_rfl))
  f219:=Tryz.func44.trans (congrArg some (by kernel_rfl))
  f220:=Tryz.func19.trans (congrArg some (by kernel_rfl))
  f224:=Tryz.func71.trans (congrArg some (by kernel_rfl))
  f225:=Tryz.func70.trans (congrArg some (by kernel_rfl))
  f266:=Tryz.func100.trans (congrArg some (by kernel_rfl))
  f267:=Tryz.func72.trans (congrArg some (by kernel_rfl))
  f314:=Tryz.func101.trans (congrArg some (by kernel_rfl))
  t3:=Tryz.underlying3
  a3:=Tryz.isAgg3
  z3:=Tryz.sizeOf3
  v3:=Tryz.zeroValue3
  t4:=Tryz.underlying4
  a4:=Tryz.isAgg4
  z4:=Tryz.sizeOf4
  v4:=Tryz.zeroValue4
  t5:=Tryz.underlying5
  a5:=Tryz.isAgg5
  z5:=Tryz.sizeOf5
  v5:=Tryz.zeroValue5
  t9:=Tryz.underlying9
  a9:=Tryz.isAgg9
  z9:=Tryz.sizeOf9
  v9:=Tryz.zeroValue9
  t46:=Tryz.underlying98
  a46:=Tryz.isAgg98
  z46:=Tryz.sizeOf98
  v46:=Tryz.zeroValue98
  t51:=Tryz.underlying109
  a51:=Tryz.isAgg109
  z51:=Tryz.sizeOf109
  v51:=Tryz.zeroValue109
  t59:=Tryz.underlying33
  a59:=Tryz.isAgg33
  z59:=Tryz.sizeOf33
  v59:=Tryz.zeroValue33
  t146:=Tryz.underlying133
  a146:=Tryz.isAgg133
  z146:=Tryz.sizeOf133
  v146:=Tryz.zeroValue133
  g1:=by kernel_rfl }
open Go.RowKit Go.Lib in
/-- strings.Cut: "Cut slices s around the first instance of sep, returning the text before and after sep. The found result reports whether sep appears in s. If sep does not appear in s, cut returns s, "", false.": IT RETURNS 'Lib.cut s sep'; the world is as it was but for the count of draws. (LAID: no walk: one application.) -/
theorem Tryz.strings_Cut (s sep:ByteArray) (m:Int) (w:World) (hs:s.size < 4294967281) (hm:w.cell? ⟨0,0,none⟩=some (.int .i64 m)):
    Calls Tryz.prog 7 #[.string s,.string sep] w fun e w'=>e=.returned (.tuple #[.string ⟨(Lib.cut s.data.toList sep.data.toList).1.toArray⟩,.string ⟨(Lib.cut s.data.toList sep.data.toList).2.1.toArray⟩,.bool (Lib.cut s.data.toList sep.data.toList).2.2])∧∃ n,w'=w.drewN n:=Any.strings_Cut Tryz.lays145 s sep m w hs hm
def Tryz.lays138_ren:Go.Shelf.Ren:=⟨fun | 138=>42 | 195=>67 | 218=>68 | 143=>43 | 219=>44 | 217=>69 | 225=>70 | 224=>71 | 267=>72 | 266=>100 | 314=>101 | n=>n,fun | 9=>9 | 3=>3 | 4=>4 | 5=>5 | 0=>0 | 46=>98 | 146=>133 | 51=>109 | n=>n,fun | 1=>0 | n=>n⟩
def Tryz.laysM219_ren:Go.Shelf.Ren:=⟨fun | 219=>44 | 217=>69 | 225=>70 | 224=>71 | 267=>72 | 266=>100 | 314=>101 | n=>n,fun | 9=>9 | 3=>3 | 4=>4 | 5=>5 | 46=>98 | 146=>133 | 51=>109 | n=>n,fun | 1=>0 | n=>n⟩
def Tryz.laysM143_ren:Go.Shelf.Ren:=⟨fun | 143=>43 | 219=>44 | 217=>69 | 225=>70 | 224=>71 | 267=>72 | 266=>100 | 314=>101 | n=>n,fun | 9=>9 | 3=>3 | 4=>4 | 5=>5 | 46=>98 | 146=>133 | 51=>109 | n=>n,fun | 1=>0 | n=>n⟩
def Tryz.laysM220_ren:Go.Shelf.Ren:=⟨fun | 220=>19 | 219=>44 | 217=>69 | 225=>70 | 224=>71 | 267=>72 | 266=>100 | 314=>101 | n=>n,fun | 9=>9 | 4=>4 | 3=>3 | 5=>5 | 46=>98 | 146=>133 | 51=>109 | n=>n,fun | 1=>0 | n=>n⟩
def Tryz.laysM145_ren:Go.Shelf.Ren:=⟨fun | 145=>7 | 220=>19 | 219=>44 | 217=>69 | 225=>70 | 224=>71 | 267=>72 | 266=>100 | 314=>101 | n=>n,fun | 9=>9 | 4=>4 | 59=>33 | 3=>3 | 5=>5 | 46=>98 | 146=>133 | 51=>109 | n=>n,fun | 1=>0 | n=>n⟩
def Tryz.laysM138_ren:Go.Shelf.Ren:=⟨fun | 138=>42 | 195=>67 | 218=>68 | 143=>43 | 219=>44 | 217=>69 | 225=>70 | 224=>71 | 267=>72 | 266=>100 | 314=>101 | n=>n,fun | 9=>9 | 3=>3 | 4=>4 | 5=>5 | 0=>0 | 46=>98 | 146=>133 | 51=>109 | n=>n,fun | 1=>0 | n=>n⟩
def Tryz.lays206_ren:Go.Shelf.Ren:=⟨fun | 206=>81 | n=>n,fun | 9=>9 | 4=>4 | 3=>3 | n=>n,fun | n=>n⟩
def Tryz.lays221_ren:Go.Shelf.Ren:=⟨fun | 221=>18 | 268=>41 | 138=>42 | 143=>43 | 195=>67 | 197=>49 | 218=>68 | 219=>44 | 260=>77 | 217=>69 | 225=>70 | 224=>71 | 267=>72 | 266=>100 | 314=>101 | n=>n,fun | 9=>9 | 3=>3 | 31=>31 | 4=>4 | 0=>0 | 105=>76 | 21=>21 | 5=>5 | 46=>98 | 119=>139 | 139=>142 | 138=>141 | 146=>133 | 51=>109 | n=>n,fun | 1=>0 | 3=>3 | 4=>4 | n=>n⟩
def Tryz.lays146_ren:Go.Shelf.Ren:=⟨fun | 146=>6 | 221=>18 | 268=>41 | 138=>42 | 143=>43 | 195=>67 | 197=>49 | 218=>68 | 219=>44 | 260=>77 | 217=>69 | 225=>70 | 224=>71 | 267=>72 | 266=>100 | 314=>101 | n=>n,fun | 9=>9 | 31=>31 | 3=>3 | 4=>4 | 0=>0 | 105=>76 | 21=>21 | 5=>5 | 46=>98 | 119=>139 | 139=>142 | 138=>141 | 146=>133 | 51=>109 | n=>n,fun | 1=>0 | 3=>3 | 4=>4 | n=>n⟩
theorem Tryz.lays146:Go.Proofs.Lays.n146 Tryz.prog Tryz.lays146_ren:={
  mixed:=by kernel_rfl
  f138:=Tryz.func42.trans (congrArg some (by kernel_rfl))
  f143:=Tryz.func43.trans (congrArg some (by kernel_rfl))
  f146:=Tryz.func6.trans (congrArg some (by kernel_rfl))
  f195:=Tryz.func67.trans (congrArg some (by kernel_rfl))
  f197:=Tryz.func49.trans (congrArg some (by kernel_rfl))
  f217:=Tryz.func69.trans (congrArg some (by kernel_rfl))
  f218:=Tryz.func68.trans (congrArg some (by kernel_rfl))
  f219:=Tryz.func44.trans (congrArg some (by kernel_rfl))
  f221:=Tryz.func18.trans (congrArg some (by kernel_rfl))
  f224:=Tryz.func71.trans (congrArg some (by kernel_rfl))
  f225:=Tryz.func70.trans (congrArg some (by kernel_rfl))
  f260:=Tryz.func77.trans (congrArg some (by kernel_rfl))
  f266:=Tryz.func100.trans (congrArg some (by kernel_rfl))
  f267:=Tryz.func72.trans (congrArg some (by kernel_rfl))
  f268:=Tryz.func41.trans (congrArg some (by kernel_rfl))
  f314:=Tryz.func101.trans (congrArg some (by kernel_rfl))
  t0:=Tryz.underlying0
  a0:=Tryz.isAgg0
  z0:=Tryz.sizeOf0
  v0:=Tryz.zeroValue0
  t3:=Tryz.underlying3
  a3:=Tryz.isAgg3
  z3:=Tryz.sizeOf3
  v3:=Tryz.zeroValue3
  t4:=Tryz.underlying4
  a4:=Tryz.isAgg4
  z4:=Tryz.sizeOf4
  v4:=Tryz.zeroValue4
  t5:=Tryz.underlying5
  a5:=Tryz.isAgg5
  z5:=Tryz.sizeOf5
  v5:=Tryz.zeroValue5
  t9:=Tryz.underlying9
  a9:=Tryz.isAgg9
  z9:=Tryz.sizeOf9
  v9:=Tryz.zeroValue9
  t21:=Tryz.underlying21
  a21:=Tryz.isAgg21
  z21:=Tryz.sizeOf21
  v21:=Tryz.zeroValue21
  t31:=Tryz.underlying31
  a31:=Tryz.isAgg31
  z31:=Tryz.sizeOf31
  v31:=Tryz.zeroValue31
  t46:=Tryz.underlying98
  a46:=Tryz.isAgg98
  z46:=Tryz.sizeOf98
  v46:=Tryz.zeroValue98
  t51:=Tryz.underlying109
  a51:=Tryz.isAgg109
  z51:=Tryz.sizeOf109
  v51:=Tryz.zeroValue109
  t105:=Tryz.underlying76
  a105:=Tryz.isAgg76
  z105:=Tryz.sizeOf76
  v105:=Tryz.zeroValue76
  t119:=Tryz.underlying139
  a119:=Tryz.isAgg139
  z119:=Tryz.sizeOf139
  t138:=Tryz.underlying141
  a138:=Tryz.isAgg141
  z138:=Tryz.sizeOf141
  v138:=Tryz.zeroValue141
  t139:=Tryz.underlying142
  a139:=Tryz.isAgg142
  z139:=Tryz.sizeOf142
  v139:=Tryz.zeroValue142
  t146:=Tryz.underlying133
  a146:=Tryz.isAgg133
  z146:=Tryz.sizeOf133
  v146:=Tryz.zeroValue133
  g1:=by kernel_rfl
  g3:=by kernel_rfl
  g4:=by kernel_rfl }
open Go.RowKit Go.Lib in
/-- strings.Split. (LAID: no walk: one application.) -/
theorem Tryz.strings_Split (s sep:ByteArray) (m:Int) (w:World) (hs:s.size < 4294967281) (hm:w.cell? ⟨0,0,none⟩=some (.int .i64 m)) (h1:1≤sep.size):
    Calls Tryz.prog 6 #[.string s,.string sep] w fun e w'=>
      e=.returned (.slice (some ⟨w.heap.size,0,none⟩) (Lib.countB s sep+1) (Lib.countB s sep+1))∧w'=w.alloc (.cells ((Lib.splitB sep 0 (Lib.countB s sep) s).map Value.string).toArray 9):=Any.strings_Split Tryz.lays146 (by kernel_rfl) s sep m w hs hm h1
def Tryz.lays154_ren:Go.Shelf.Ren:=⟨fun | 154=>22 | 138=>42 | 165=>47 | 143=>43 | 166=>48 | 197=>49 | 169=>33 | 195=>67 | 218=>68 | 240=>75 | 241=>76 | 219=>44 | 260=>77 | 276=>102 | 277=>103 | 217=>69 | 225=>70 | 224=>71 | 267=>72 | 266=>100 | 314=>101 | n=>n,fun | 9=>9 | 3=>3 | 4=>4 | 72=>60 | 0=>0 | 76=>44 | 105=>76 | 21=>21 | 5=>5 | 70=>57 | 20=>20 | 37=>58 | 75=>43 | 127=>93 | 164=>136 | 46=>98 | 119=>139 | 139=>142 | 138=>141 | 146=>133 | 51=>109 | 80=>68 | n=>n,fun | 1=>0 | 3=>3 | 4=>4 | n=>n⟩
def Tryz.lays155_ren:Go.Shelf.Ren:=⟨fun | 155=>9 | 154=>22 | 138=>42 | 165=>47 | 143=>43 | 166=>48 | 197=>49 | 169=>33 | 195=>67 | 218=>68 | 240=>75 | 241=>76 | 219=>44 | 260=>77 | 276=>102 | 277=>103 | 217=>69 | 225=>70 | 224=>71 | 267=>72 | 266=>100 | 314=>101 | n=>n,fun | 9=>9 | 3=>3 | 4=>4 | 72=>60 | 0=>0 | 76=>44 | 105=>76 | 21=>21 | 5=>5 | 70=>57 | 20=>20 | 37=>58 | 75=>43 | 127=>93 | 164=>136 | 46=>98 | 119=>139 | 139=>142 | 138=>141 | 146=>133 | 51=>109 | 80=>68 | n=>n,fun | 1=>0 | 3=>3 | 4=>4 | n=>n⟩
theorem Tryz.lays155:Go.Proofs.Lays.n155 Tryz.prog Tryz.lays155_ren:={
  mixed:=by kernel_rfl
  f138:=Tryz.func42.trans (congrArg some (by kernel_rfl))
  f143:=Tryz.func43.trans (congrArg some (by kernel_rfl))
  f154:=Tryz.func22.trans (congrArg some (by kernel_rfl))
  f155:=Tryz.func9.trans (congrArg some (by kernel_rfl))
  f165:=Tryz.func47.trans (congrArg some (by kernel_rfl))
  f166:=Tryz.func48.trans (congrArg some (by kernel_rfl))
  f169:=Tryz.func33.trans (congrArg some (by kernel_rfl))
  f195:=Tryz.func67.trans (congrArg some (by kernel_rfl))
  f197:=Tryz.func49.trans (congrArg some (by kernel_rfl))
  f217:=Tryz.func69.trans (congrArg some (by kernel_rfl))
  f218:=Tryz.func68.trans (congrArg some (by kernel_rfl))
  f219:=Tryz.func44.trans (congrArg some (by kernel_rfl))
  f224:=Tryz.func71.trans (congrArg some (by kernel_rfl))
  f225:=Tryz.func70.trans (congrArg some (by kernel_rfl))
  f240:=Tryz.func75.trans (congrArg some (by kernel_rfl))
  f241:=Tryz.func76.trans (congrArg some (by kernel_rfl))
  f260:=Tryz.func77.trans (congrArg some (by kernel_rfl))
  f266:=Tryz.func100.trans (congrArg some (by kernel_rfl))
  f267:=Tryz.func72.trans (congrArg some (by kernel_rfl))
  f276:=Tryz.func102.trans (congrArg some (by kernel_rfl))
  f277:=Tryz.func103.trans (congrArg some (by kernel_rfl))
  f314:=Tryz.func101.trans (congrArg some (by kernel_rfl))
  t0:=Tryz.underlying0
  a0:=Tryz.isAgg0
  z0:=Tryz.sizeOf0
  v0:=Tryz.zeroValue0
  t3:=Tryz.underlying3
  a3:=Tryz.isAgg3
  z3:=Tryz.sizeOf3
  v3:=Tryz.zeroValue3
  t4:=Tryz.underlying4
  a4:=Tryz.isAgg4
  z4:=Tryz.sizeOf4
  v4:=Tryz.zeroValue4
  t5:=Tryz.underlying5
  a5:=Tryz.isAgg5
  z5:=Tryz.sizeOf5
  v5:=Tryz.zeroValue5
  t9:=Tryz.underlying9
  a9:=Tryz.isAgg9
  z9:=Tryz.sizeOf9
  v9:=Tryz.zeroValue9
  t20:=Tryz.underlying20
  a20:=Tryz.isAgg20
  z20:=Tryz.sizeOf20
  v20:=Tryz.zeroValue20
  t21:=Tryz.underlying21
  a21:=Tryz.isAgg21
  z21:=Tryz.sizeOf21
  v21:=Tryz.zeroValue21
  t37:=Tryz.underlying58
  a37:=Tryz.isAgg58
  z37:=Tryz.sizeOf58
  v37:=Tryz.zeroValue58
  t46:=Tryz.underlying98
  a46:=Tryz.isAgg98
  z46:=Tryz.sizeOf98
  v46:=Tryz.zeroValue98
  t51:=Tryz.underlying109
  a51:=Tryz.isAgg109
  z51:=Tryz.sizeOf109
  v51:=Tryz.zeroValue109
  t70:=Tryz.underlying57
  a70:=Tryz.isAgg57
  z70:=Tryz.sizeOf57
  v70:=Tryz.zeroValue57
  t72:=Tryz.underlying60
  a72:=Tryz.isAgg60
  z72:=Tryz.sizeOf60
  v72:=Tryz.zeroValue60
  t75:=Tryz.underlying43
  a75:=Tryz.isAgg43
  z75:=Tryz.sizeOf43
  v75:=Tryz.zeroValue43
  t76:=Tryz.underlying44
  a76:=Tryz.isAgg44
  z76:=Tryz.sizeOf44
  v76:=Tryz.zeroValue44
  t105:=Tryz.underlying76
  a105:=Tryz.isAgg76
  z105:=Tryz.sizeOf76
  v105:=Tryz.zeroValue76
  t119:=Tryz.underlying139
  a119:=Tryz.isAgg139
  z119:=Tryz.sizeOf139
  t127:=Tryz.underlying93
  a127:=Tryz.isAgg93
  z127:=Tryz.sizeOf93
  v127:=Tryz.zeroValue93
  t138:=Tryz.underlying141
  a138:=Tryz.isAgg141
  z138:=Tryz.sizeOf141
  v138:=Tryz.zeroValue141
  t139:=Tryz.underlying142
  a139:=Tryz.isAgg142
  z139:=Tryz.sizeOf142
  v139:=Tryz.zeroValue142
  t146:=Tryz.underlying133
  a146:=Tryz.isAgg133
  z146:=Tryz.sizeOf133
  v146:=Tryz.zeroValue133
  t164:=Tryz.underlying136
  a164:=Tryz.isAgg136
  z164:=Tryz.sizeOf136
  v164:=Tryz.zeroValue136
  g1:=by kernel_rfl
  g3:=by kernel_rfl
  g4:=by kernel_rfl }
theorem Tryz.Builder_Extra_155:Builder.Extra Tryz.prog Tryz.lays155_ren:={
  sizeBuilder:=by kernel_rfl
  liesBuilder:=by kernel_rfl
  t5:=Tryz.underlying5
  a5:=Tryz.isAgg5
  z5:=Tryz.sizeOf5
  v5:=Tryz.zeroValue5
  infoByte:=by kernel_rfl
  cellsByte:=by kernel_rfl
  sizeByte:=by kernel_rfl
  neB5:=by decide }
open Go.RowKit Go.Lib in
/-- strings.ReplaceAll: "ReplaceAll returns a copy of the string s with all non-overlapping instances of old replaced by new.": AT AN old THAT IS NOT EMPTY: 'Lib.replaceAll s old new'. (LAID: no walk: one application.) -/
theorem Tryz.strings_ReplaceAll (s old new:ByteArray) (m:Int) (w:World) (hs:s.size < 4294967281) (hm:w.cell? ⟨0,0,none⟩=some (.int .i64 m)) (h1:1≤old.size) (hlen:s.size+Lib.countB s old*new.size≤140737488355328):
    Calls Tryz.prog 9 #[.string s,.string old,.string new] w fun e w'=>
      e=.returned (.string ⟨(Lib.replaceAll s.data.toList old.data.toList new.data.toList).toArray⟩)∧Below w.heap.size w w':=Any.strings_ReplaceAll Tryz.lays155 Tryz.Builder_Extra_155 s old new m w hs hm h1 hlen
def Tryz.laysM146_ren:Go.Shelf.Ren:=⟨fun | 146=>6 | 221=>18 | 268=>41 | 138=>42 | 143=>43 | 195=>67 | 197=>49 | 218=>68 | 219=>44 | 260=>77 | 217=>69 | 225=>70 | 224=>71 | 267=>72 | 266=>100 | 314=>101 | n=>n,fun | 9=>9 | 31=>31 | 3=>3 | 4=>4 | 0=>0 | 105=>76 | 21=>21 | 5=>5 | 46=>98 | 119=>139 | 139=>142 | 138=>141 | 146=>133 | 51=>109 | n=>n,fun | 1=>0 | 3=>3 | 4=>4 | n=>n⟩
def Tryz.laysM154_ren:Go.Shelf.Ren:=⟨fun | 154=>22 | 138=>42 | 165=>47 | 143=>43 | 166=>48 | 197=>49 | 169=>33 | 195=>67 | 218=>68 | 240=>75 | 241=>76 | 219=>44 | 260=>77 | 276=>102 | 277=>103 | 217=>69 | 225=>70 | 224=>71 | 267=>72 | 266=>100 | 314=>101 | n=>n,fun | 9=>9 | 3=>3 | 4=>4 | 72=>60 | 0=>0 | 76=>44 | 105=>76 | 21=>21 | 5=>5 | 70=>57 | 20=>20 | 37=>58 | 75=>43 | 127=>93 | 164=>136 | 46=>98 | 119=>139 | 139=>142 | 138=>141 | 146=>133 | 51=>109 | 80=>68 | n=>n,fun | 1=>0 | 3=>3 | 4=>4 | n=>n⟩
def Tryz.laysM155_ren:Go.Shelf.Ren:=⟨fun | 155=>9 | 154=>22 | 138=>42 | 165=>47 | 143=>43 | 166=>48 | 197=>49 | 169=>33 | 195=>67 | 218=>68 | 240=>75 | 241=>76 | 219=>44 | 260=>77 | 276=>102 | 277=>103 | 217=>69 | 225=>70 | 224=>71 | 267=>72 | 266=>100 | 314=>101 | n=>n,fun | 9=>9 | 3=>3 | 4=>4 | 72=>60 | 0=>0 | 76=>44 | 105=>76 | 21=>21 | 5=>5 | 70=>57 | 20=>20 | 37=>58 | 75=>43 | 127=>93 | 164=>136 | 46=>98 | 119=>139 | 139=>142 | 138=>141 | 146=>133 | 51=>109 | 80=>68 | n=>n,fun | 1=>0 | 3=>3 | 4=>4 | n=>n⟩
def Tryz.lays197_ren:Go.Shelf.Ren:=⟨fun | 197=>49 | 260=>77 | n=>n,fun | 9=>9 | 21=>21 | 3=>3 | 4=>4 | 5=>5 | 105=>76 | 119=>139 | 0=>0 | 46=>98 | 139=>142 | 138=>141 | n=>n,fun | 3=>3 | 4=>4 | n=>n⟩
def Tryz.lays152_ren:Go.Shelf.Ren:=⟨fun | 152=>149 | 137=>152 | 119=>153 | 224=>71 | 225=>70 | 217=>69 | 266=>100 | n=>n,fun | 9=>9 | 21=>21 | 3=>3 | 4=>4 | 5=>5 | 0=>0 | 46=>98 | n=>n,fun | n=>n⟩
def Tryz.lays151_ren:Go.Shelf.Ren:=⟨fun | 151=>128 | 152=>149 | 137=>152 | 119=>153 | 224=>71 | 225=>70 | 217=>69 | 266=>100 | n=>n,fun | 9=>9 | 21=>21 | 4=>4 | 3=>3 | 5=>5 | 0=>0 | 46=>98 | n=>n,fun | n=>n⟩
def Tryz.lays227_ren:Go.Shelf.Ren:=⟨fun | 227=>107 | n=>n,fun | 9=>9 | 116=>149 | 4=>4 | 0=>0 | 3=>3 | 5=>5 | n=>n,fun | n=>n⟩
def Tryz.lays228_ren:Go.Shelf.Ren:=⟨fun | 228=>127 | n=>n,fun | 124=>153 | 5=>5 | 4=>4 | 0=>0 | 116=>149 | n=>n,fun | n=>n⟩
def Tryz.lays268_ren:Go.Shelf.Ren:=⟨fun | 268=>41 | 195=>67 | 197=>49 | 260=>77 | n=>n,fun | 9=>9 | 3=>3 | 31=>31 | 4=>4 | 105=>76 | 21=>21 | 0=>0 | 5=>5 | 119=>139 | 46=>98 | 139=>142 | 138=>141 | n=>n,fun | 3=>3 | 4=>4 | n=>n⟩
def Tryz.lays260_ren:Go.Shelf.Ren:=⟨fun | 260=>77 | n=>n,fun | 9=>9 | 21=>21 | 3=>3 | 4=>4 | 5=>5 | 119=>139 | 0=>0 | 46=>98 | 139=>142 | 138=>141 | n=>n,fun | 3=>3 | 4=>4 | n=>n⟩
end Go.Proofs
