/- The functions checked against the loaded program. -/
import Derived.Test.YtfcgnpphabplbaaGreatUc
import Derived.Test.YtfcgnpphabplbaaGreatUe
import Derived.Test.YtfcgnpphabplbaaGreatProg
set_option linter.unusedVariables false
set_option linter.unusedSimpArgs false

set_option maxRecDepth 100000

namespace Go.Proofs.YtfcgnpphabplbaaGreat
open Go.Ak

def fmTryz:Nat→Nat
 | 3=>78
 | 8=>21
 | 10=>8
 | 11=>29
 | 14=>9
 | 15=>27
 | 18=>6
 | 19=>7
 | 20=>11
 | 23=>32
 | 26=>18
 | 29=>34
 | 31=>153
 | 32=>36
 | 33=>17
 | 34=>23
 | 35=>79
 | 37=>93
 | 38=>40
 | 40=>151
 | 41=>22
 | 42=>24
 | 43=>51
 | 44=>25
 | 45=>26
 | 46=>30
 | 47=>28
 | 48=>53
 | 49=>37
 | 50=>63
 | 51=>52
 | 52=>62
 | 53=>61
 | 54=>38
 | 55=>54
 | 56=>35
 | 57=>43
 | 58=>45
 | 59=>44
 | 60=>94
 | 61=>105
 | 62=>106
 | 63=>67
 | 64=>41
 | 65=>46
 | 66=>47
 | 67=>55
 | 68=>82
 | 69=>48
 | 70=>49
 | 71=>50
 | 72=>56
 | 73=>57
 | 74=>58
 | 75=>59
 | 76=>81
 | 77=>65
 | 78=>64
 | 79=>80
 | 80=>66
 | 81=>71
 | 82=>72
 | 83=>73
 | 84=>118
 | 85=>87
 | 86=>42
 | 87=>68
 | 88=>69
 | 89=>70
 | 90=>75
 | 91=>74
 | 92=>76
 | 93=>77
 | 94=>83
 | 95=>84
 | 96=>86
 | 97=>85
 | 98=>88
 | 99=>89
 | 100=>90
 | 101=>91
 | 102=>92
 | 103=>96
 | 104=>97
 | 105=>98
 | 106=>99
 | 107=>100
 | 108=>101
 | 109=>102
 | 110=>103
 | 111=>104
 | 112=>107
 | 113=>108
 | 114=>109
 | 115=>110
 | 116=>112
 | 117=>111
 | 118=>113
 | 119=>114
 | 120=>115
 | 121=>116
 | 122=>117
 | 123=>119
 | 124=>123
 | 125=>124
 | 126=>125
 | 127=>126
 | 128=>127
 | 129=>128
 | 130=>121
 | 131=>122
 | 132=>129
 | 133=>130
 | 134=>131
 | 135=>132
 | 136=>133
 | 137=>134
 | 138=>135
 | 139=>2
 | 140=>1
 | 141=>3
 | 142=>10
 | 143=>12
 | 144=>13
 | 145=>4
 | 146=>14
 | 147=>15
 | 148=>16
 | 149=>5
 | 150=>19
 | 151=>20
 | 152=>31
 | 153=>33
 | 154=>39
 | 155=>60
 | _=>0

def tmTryz:Nat→Nat
 | 1=>92
 | 2=>87
 | 3=>84
 | 4=>82
 | 5=>5
 | 6=>9
 | _=>0

noncomputable def zal (G:Nat→Option Obj):Tr:=⟨Tryz.prog,fmTryz,tmTryz,G⟩

/-- auklet/aukletlaw08.SubstSubs -/
theorem chk141 (G:Nat→Option Obj):zam (zal G) a141 Tryz.f3=true:=by kernel_rfl
/-- auklet/aukletlaw08.SubstSplits -/
theorem chk145 (G:Nat→Option Obj):zam (zal G) a145 Tryz.f4=true:=by kernel_rfl
/-- auklet/aukletlaw08.light -/
theorem chk18 (G:Nat→Option Obj):zam (zal G) a18 Tryz.f6=true:=by kernel_rfl
/-- auklet/aukletlaw08.lives -/
theorem chk19 (G:Nat→Option Obj):zam (zal G) a19 Tryz.f7=true:=by kernel_rfl
/-- auklet/match.New -/
theorem chk10 (G:Nat→Option Obj):zam (zal G) a10 Tryz.f8=true:=by kernel_rfl
/-- auklet/aukletref07.New -/
theorem chk14 (G:Nat→Option Obj):zam (zal G) a14 Tryz.f9=true:=by kernel_rfl
/-- auklet/subst.Sub -/
theorem chk142 (G:Nat→Option Obj):zam (zal G) a142 Tryz.f10=true:=by kernel_rfl
/-- auklet/subst.All -/
theorem chk20 (G:Nat→Option Obj):zam (zal G) a20 Tryz.f11=true:=by kernel_rfl
/-- auklet/aukletref07.All -/
theorem chk143 (G:Nat→Option Obj):zam (zal G) a143 Tryz.f12=true:=by kernel_rfl
/-- auklet/aukletref08.Replace -/
theorem chk144 (G:Nat→Option Obj):zam (zal G) a144 Tryz.f13=true:=by kernel_rfl
/-- auklet/subst.Split -/
theorem chk146 (G:Nat→Option Obj):zam (zal G) a146 Tryz.f14=true:=by kernel_rfl
/-- auklet/aukletref02.Same -/
theorem chk147 (G:Nat→Option Obj):zam (zal G) a147 Tryz.f15=true:=by kernel_rfl
/-- auklet/aukletref08.Split -/
theorem chk148 (G:Nat→Option Obj):zam (zal G) a148 Tryz.f16=true:=by kernel_rfl
/-- auklet/aukletlaw07.Light -/
theorem chk8 (G:Nat→Option Obj):zam (zal G) a8 Tryz.f21=true:=by kernel_rfl
/-- auklet/nfa.Build -/
theorem chk34 (G:Nat→Option Obj):zam (zal G) a34 Tryz.f23=true:=by kernel_rfl
/-- auklet/ere.Least -/
theorem chk42 (G:Nat→Option Obj):zam (zal G) a42 Tryz.f24=true:=by kernel_rfl
/-- auklet/aukletref05.Parse -/
theorem chk44 (G:Nat→Option Obj):zam (zal G) a44 Tryz.f25=true:=by kernel_rfl
/-- auklet/aukletref06.States -/
theorem chk45 (G:Nat→Option Obj):zam (zal G) a45 Tryz.f26=true:=by kernel_rfl
/-- (*auklet/match.Pattern).Find -/
theorem chk15 (G:Nat→Option Obj):zam (zal G) a15 Tryz.f27=true:=by kernel_rfl
/-- auklet/subst.replaced -/
theorem chk47 (G:Nat→Option Obj):zam (zal G) a47 Tryz.f28=true:=by kernel_rfl
/-- auklet/aukletref06.Table -/
theorem chk46 (G:Nat→Option Obj):zam (zal G) a46 Tryz.f30=true:=by kernel_rfl
/-- auklet/aukletref07.find -/
theorem chk152 (G:Nat→Option Obj):zam (zal G) a152 Tryz.f31=true:=by kernel_rfl
/-- auklet/aukletref08.Put -/
theorem chk23 (G:Nat→Option Obj):zam (zal G) a23 Tryz.f32=true:=by kernel_rfl
/-- auklet/subst.split -/
theorem chk153 (G:Nat→Option Obj):zam (zal G) a153 Tryz.f33=true:=by kernel_rfl
/-- auklet/aukletlaw06.Light -/
theorem chk38 (G:Nat→Option Obj):zam (zal G) a38 Tryz.f40=true:=by kernel_rfl
/-- (*auklet/ere.reader).pattern -/
theorem chk86 (G:Nat→Option Obj):zam (zal G) a86 Tryz.f42=true:=by kernel_rfl
/-- auklet/nfa.states -/
theorem chk57 (G:Nat→Option Obj):zam (zal G) a57 Tryz.f43=true:=by kernel_rfl
/-- (*auklet/nfa.Prog).build -/
theorem chk59 (G:Nat→Option Obj):zam (zal G) a59 Tryz.f44=true:=by kernel_rfl
/-- (*auklet/nfa.Prog).add -/
theorem chk58 (G:Nat→Option Obj):zam (zal G) a58 Tryz.f45=true:=by kernel_rfl
/-- auklet/ere.can -/
theorem chk65 (G:Nat→Option Obj):zam (zal G) a65 Tryz.f46=true:=by kernel_rfl
/-- auklet/ere.least -/
theorem chk66 (G:Nat→Option Obj):zam (zal G) a66 Tryz.f47=true:=by kernel_rfl
/-- (*auklet/aukletref05.P).pattern -/
theorem chk69 (G:Nat→Option Obj):zam (zal G) a69 Tryz.f48=true:=by kernel_rfl
/-- auklet/aukletref05.Can -/
theorem chk70 (G:Nat→Option Obj):zam (zal G) a70 Tryz.f49=true:=by kernel_rfl
/-- auklet/aukletref06.count -/
theorem chk71 (G:Nat→Option Obj):zam (zal G) a71 Tryz.f50=true:=by kernel_rfl
/-- (*auklet/match.Pattern).find -/
theorem chk43 (G:Nat→Option Obj):zam (zal G) a43 Tryz.f51=true:=by kernel_rfl
/-- (*strings.Builder).WriteString -/
theorem chk51 (G:Nat→Option Obj):zam (zal G) a51 Tryz.f52=true:=by kernel_rfl
/-- auklet/subst.put -/
theorem chk48 (G:Nat→Option Obj):zam (zal G) a48 Tryz.f53=true:=by kernel_rfl
/-- auklet/aukletref04.Of -/
theorem chk72 (G:Nat→Option Obj):zam (zal G) a72 Tryz.f56=true:=by kernel_rfl
/-- auklet/aukletref06.then -/
theorem chk73 (G:Nat→Option Obj):zam (zal G) a73 Tryz.f57=true:=by kernel_rfl
/-- auklet/aukletref06.either -/
theorem chk74 (G:Nat→Option Obj):zam (zal G) a74 Tryz.f58=true:=by kernel_rfl
/-- auklet/aukletref06.often -/
theorem chk75 (G:Nat→Option Obj):zam (zal G) a75 Tryz.f59=true:=by kernel_rfl
/-- auklet/aukletref07.longest -/
theorem chk155 (G:Nat→Option Obj):zam (zal G) a155 Tryz.f60=true:=by kernel_rfl
/-- auklet/aukletlaw05.Small -/
theorem chk63 (G:Nat→Option Obj):zam (zal G) a63 Tryz.f67=true:=by kernel_rfl
/-- (*auklet/ere.reader).branch -/
theorem chk87 (G:Nat→Option Obj):zam (zal G) a87 Tryz.f68=true:=by kernel_rfl
/-- (*auklet/ere.reader).goes -/
theorem chk88 (G:Nat→Option Obj):zam (zal G) a88 Tryz.f69=true:=by kernel_rfl
/-- auklet/ere.joined -/
theorem chk89 (G:Nat→Option Obj):zam (zal G) a89 Tryz.f70=true:=by kernel_rfl
/-- auklet/ere.Can -/
theorem chk81 (G:Nat→Option Obj):zam (zal G) a81 Tryz.f71=true:=by kernel_rfl
/-- auklet/nfa.count -/
theorem chk82 (G:Nat→Option Obj):zam (zal G) a82 Tryz.f72=true:=by kernel_rfl
/-- (*auklet/nfa.Prog).rep -/
theorem chk83 (G:Nat→Option Obj):zam (zal G) a83 Tryz.f73=true:=by kernel_rfl
/-- slices.ContainsFunc[[]auklet/api.Re,auklet/api.Re] -/
theorem chk91 (G:Nat→Option Obj):zam (zal G) a91 Tryz.f74=true:=by kernel_rfl
/-- auklet/ere.can$1 -/
theorem chk90 (G:Nat→Option Obj):zam (zal G) a90 Tryz.f75=true:=by kernel_rfl
/-- (*auklet/aukletref05.P).branch -/
theorem chk92 (G:Nat→Option Obj):zam (zal G) a92 Tryz.f76=true:=by kernel_rfl
/-- (*auklet/aukletref05.P).c -/
theorem chk93 (G:Nat→Option Obj):zam (zal G) a93 Tryz.f77=true:=by kernel_rfl
/-- auklet/aukletref05.Join -/
theorem chk3 (G:Nat→Option Obj):zam (zal G) a3 Tryz.f78=true:=by kernel_rfl
/-- (*auklet/nfa.Prog).Longest -/
theorem chk35 (G:Nat→Option Obj):zam (zal G) a35 Tryz.f79=true:=by kernel_rfl
/-- (*strings.Builder).WriteByte -/
theorem chk76 (G:Nat→Option Obj):zam (zal G) a76 Tryz.f81=true:=by kernel_rfl
/-- strings.Cut -/
theorem chk95 (G:Nat→Option Obj):zam (zal G) a95 Tryz.f84=true:=by kernel_rfl
/-- auklet/aukletref05.Parts -/
theorem chk85 (G:Nat→Option Obj):zam (zal G) a85 Tryz.f87=true:=by kernel_rfl
/-- (*auklet/ere.reader).peek -/
theorem chk98 (G:Nat→Option Obj):zam (zal G) a98 Tryz.f88=true:=by kernel_rfl
/-- (*auklet/ere.reader).piece -/
theorem chk99 (G:Nat→Option Obj):zam (zal G) a99 Tryz.f89=true:=by kernel_rfl
/-- slices.IndexFunc[[]auklet/api.Re,auklet/api.Re] -/
theorem chk100 (G:Nat→Option Obj):zam (zal G) a100 Tryz.f90=true:=by kernel_rfl
/-- (*auklet/aukletref05.P).atom -/
theorem chk101 (G:Nat→Option Obj):zam (zal G) a101 Tryz.f91=true:=by kernel_rfl
/-- (*auklet/aukletref05.P).reps -/
theorem chk102 (G:Nat→Option Obj):zam (zal G) a102 Tryz.f92=true:=by kernel_rfl
/-- (*auklet/nfa.Prog).ends -/
theorem chk37 (G:Nat→Option Obj):zam (zal G) a37 Tryz.f93=true:=by kernel_rfl
/-- (*auklet/nfa.Prog).Longest$1 -/
theorem chk60 (G:Nat→Option Obj):zam (zal G) a60 Tryz.f94=true:=by kernel_rfl
/-- internal/stringslite.Cut -/
theorem chk104 (G:Nat→Option Obj):zam (zal G) a104 Tryz.f97=true:=by kernel_rfl
/-- (*auklet/ere.reader).atom -/
theorem chk105 (G:Nat→Option Obj):zam (zal G) a105 Tryz.f98=true:=by kernel_rfl
/-- (*auklet/ere.reader).times -/
theorem chk106 (G:Nat→Option Obj):zam (zal G) a106 Tryz.f99=true:=by kernel_rfl
/-- (*auklet/aukletref05.P).bad -/
theorem chk107 (G:Nat→Option Obj):zam (zal G) a107 Tryz.f100=true:=by kernel_rfl
/-- auklet/aukletref04.Parse -/
theorem chk108 (G:Nat→Option Obj):zam (zal G) a108 Tryz.f101=true:=by kernel_rfl
/-- auklet/aukletref05.one -/
theorem chk109 (G:Nat→Option Obj):zam (zal G) a109 Tryz.f102=true:=by kernel_rfl
/-- auklet/aukletref05.All -/
theorem chk110 (G:Nat→Option Obj):zam (zal G) a110 Tryz.f103=true:=by kernel_rfl
/-- (*auklet/aukletref05.P).num -/
theorem chk111 (G:Nat→Option Obj):zam (zal G) a111 Tryz.f104=true:=by kernel_rfl
/-- (*auklet/nfa.run).enter -/
theorem chk61 (G:Nat→Option Obj):zam (zal G) a61 Tryz.f105=true:=by kernel_rfl
/-- auklet/class.Has -/
theorem chk62 (G:Nat→Option Obj):zam (zal G) a62 Tryz.f106=true:=by kernel_rfl
/-- (*auklet/ere.reader).fail -/
theorem chk113 (G:Nat→Option Obj):zam (zal G) a113 Tryz.f108=true:=by kernel_rfl
/-- auklet/class.Parse -/
theorem chk114 (G:Nat→Option Obj):zam (zal G) a114 Tryz.f109=true:=by kernel_rfl
/-- auklet/class.Not -/
theorem chk115 (G:Nat→Option Obj):zam (zal G) a115 Tryz.f110=true:=by kernel_rfl
/-- auklet/ere.one -/
theorem chk117 (G:Nat→Option Obj):zam (zal G) a117 Tryz.f111=true:=by kernel_rfl
/-- (*auklet/ere.reader).stroke -/
theorem chk116 (G:Nat→Option Obj):zam (zal G) a116 Tryz.f112=true:=by kernel_rfl
/-- (*auklet/ere.reader).number -/
theorem chk118 (G:Nat→Option Obj):zam (zal G) a118 Tryz.f113=true:=by kernel_rfl
/-- auklet/aukletref04.at -/
theorem chk119 (G:Nat→Option Obj):zam (zal G) a119 Tryz.f114=true:=by kernel_rfl
/-- auklet/aukletref04.Named -/
theorem chk120 (G:Nat→Option Obj):zam (zal G) a120 Tryz.f115=true:=by kernel_rfl
/-- auklet/aukletref04.single -/
theorem chk121 (G:Nat→Option Obj):zam (zal G) a121 Tryz.f116=true:=by kernel_rfl
/-- (auklet/aukletref04.B).Set -/
theorem chk122 (G:Nat→Option Obj):zam (zal G) a122 Tryz.f117=true:=by kernel_rfl
/-- auklet/class.has -/
theorem chk84 (G:Nat→Option Obj):zam (zal G) a84 Tryz.f118=true:=by kernel_rfl
/-- (*auklet/class.reader).comes -/
theorem chk124 (G:Nat→Option Obj):zam (zal G) a124 Tryz.f123=true:=by kernel_rfl
/-- (*auklet/class.reader).item -/
theorem chk125 (G:Nat→Option Obj):zam (zal G) a125 Tryz.f124=true:=by kernel_rfl
/-- auklet/class.union -/
theorem chk126 (G:Nat→Option Obj):zam (zal G) a126 Tryz.f125=true:=by kernel_rfl
/-- auklet/class.not -/
theorem chk127 (G:Nat→Option Obj):zam (zal G) a127 Tryz.f126=true:=by kernel_rfl
/-- auklet/class.Add -/
theorem chk128 (G:Nat→Option Obj):zam (zal G) a128 Tryz.f127=true:=by kernel_rfl
/-- strings.HasPrefix -/
theorem chk133 (G:Nat→Option Obj):zam (zal G) a133 Tryz.f130=true:=by kernel_rfl
/-- auklet/class.named -/
theorem chk134 (G:Nat→Option Obj):zam (zal G) a134 Tryz.f131=true:=by kernel_rfl
/-- (*auklet/class.reader).single -/
theorem chk135 (G:Nat→Option Obj):zam (zal G) a135 Tryz.f132=true:=by kernel_rfl
/-- auklet/class.add -/
theorem chk136 (G:Nat→Option Obj):zam (zal G) a136 Tryz.f133=true:=by kernel_rfl
/-- internal/stringslite.HasPrefix -/
theorem chk137 (G:Nat→Option Obj):zam (zal G) a137 Tryz.f134=true:=by kernel_rfl
/-- auklet/class.ranges -/
theorem chk138 (G:Nat→Option Obj):zam (zal G) a138 Tryz.f135=true:=by kernel_rfl

theorem fsOKTryz (G:Nat→Option Obj):FsOK (zal G) fsT:=by
 intro f F h
 unfold fsT at h
 split at h
 ·cases h;exact ⟨Tryz.f3,Tryz.func3,chk141 G,by kernel_rfl⟩
 ·cases h;exact ⟨Tryz.f4,Tryz.func4,chk145 G,by kernel_rfl⟩
 ·cases h;exact ⟨Tryz.f6,Tryz.func6,chk18 G,by kernel_rfl⟩
 ·cases h;exact ⟨Tryz.f7,Tryz.func7,chk19 G,by kernel_rfl⟩
 ·cases h;exact ⟨Tryz.f8,Tryz.func8,chk10 G,by kernel_rfl⟩
 ·cases h;exact ⟨Tryz.f9,Tryz.func9,chk14 G,by kernel_rfl⟩
 ·cases h;exact ⟨Tryz.f10,Tryz.func10,chk142 G,by kernel_rfl⟩
 ·cases h;exact ⟨Tryz.f11,Tryz.func11,chk20 G,by kernel_rfl⟩
 ·cases h;exact ⟨Tryz.f12,Tryz.func12,chk143 G,by kernel_rfl⟩
 ·cases h;exact ⟨Tryz.f13,Tryz.func13,chk144 G,by kernel_rfl⟩
 ·cases h;exact ⟨Tryz.f14,Tryz.func14,chk146 G,by kernel_rfl⟩
 ·cases h;exact ⟨Tryz.f15,Tryz.func15,chk147 G,by kernel_rfl⟩
 ·cases h;exact ⟨Tryz.f16,Tryz.func16,chk148 G,by kernel_rfl⟩
 ·cases h;exact ⟨Tryz.f21,Tryz.func21,chk8 G,by kernel_rfl⟩
 ·cases h;exact ⟨Tryz.f23,Tryz.func23,chk34 G,by kernel_rfl⟩
 ·cases h;exact ⟨Tryz.f24,Tryz.func24,chk42 G,by kernel_rfl⟩
 ·cases h;exact ⟨Tryz.f25,Tryz.func25,chk44 G,by kernel_rfl⟩
 ·cases h;exact ⟨Tryz.f26,Tryz.func26,chk45 G,by kernel_rfl⟩
 ·cases h;exact ⟨Tryz.f27,Tryz.func27,chk15 G,by kernel_rfl⟩
 ·cases h;exact ⟨Tryz.f28,Tryz.func28,chk47 G,by kernel_rfl⟩
 ·cases h;exact ⟨Tryz.f30,Tryz.func30,chk46 G,by kernel_rfl⟩
 ·cases h;exact ⟨Tryz.f31,Tryz.func31,chk152 G,by kernel_rfl⟩
 ·cases h;exact ⟨Tryz.f32,Tryz.func32,chk23 G,by kernel_rfl⟩
 ·cases h;exact ⟨Tryz.f33,Tryz.func33,chk153 G,by kernel_rfl⟩
 ·cases h;exact ⟨Tryz.f40,Tryz.func40,chk38 G,by kernel_rfl⟩
 ·cases h;exact ⟨Tryz.f42,Tryz.func42,chk86 G,by kernel_rfl⟩
 ·cases h;exact ⟨Tryz.f43,Tryz.func43,chk57 G,by kernel_rfl⟩
 ·cases h;exact ⟨Tryz.f44,Tryz.func44,chk59 G,by kernel_rfl⟩
 ·cases h;exact ⟨Tryz.f45,Tryz.func45,chk58 G,by kernel_rfl⟩
 ·cases h;exact ⟨Tryz.f46,Tryz.func46,chk65 G,by kernel_rfl⟩
 ·cases h;exact ⟨Tryz.f47,Tryz.func47,chk66 G,by kernel_rfl⟩
 ·cases h;exact ⟨Tryz.f48,Tryz.func48,chk69 G,by kernel_rfl⟩
 ·cases h;exact ⟨Tryz.f49,Tryz.func49,chk70 G,by kernel_rfl⟩
 ·cases h;exact ⟨Tryz.f50,Tryz.func50,chk71 G,by kernel_rfl⟩
 ·cases h;exact ⟨Tryz.f51,Tryz.func51,chk43 G,by kernel_rfl⟩
 ·cases h;exact ⟨Tryz.f52,Tryz.func52,chk51 G,by kernel_rfl⟩
 ·cases h;exact ⟨Tryz.f53,Tryz.func53,chk48 G,by kernel_rfl⟩
 ·cases h;exact ⟨Tryz.f56,Tryz.func56,chk72 G,by kernel_rfl⟩
 ·cases h;exact ⟨Tryz.f57,Tryz.func57,chk73 G,by kernel_rfl⟩
 ·cases h;exact ⟨Tryz.f58,Tryz.func58,chk74 G,by kernel_rfl⟩
 ·cases h;exact ⟨Tryz.f59,Tryz.func59,chk75 G,by kernel_rfl⟩
 ·cases h;exact ⟨Tryz.f60,Tryz.func60,chk155 G,by kernel_rfl⟩
 ·cases h;exact ⟨Tryz.f67,Tryz.func67,chk63 G,by kernel_rfl⟩
 ·cases h;exact ⟨Tryz.f68,Tryz.func68,chk87 G,by kernel_rfl⟩
 ·cases h;exact ⟨Tryz.f69,Tryz.func69,chk88 G,by kernel_rfl⟩
 ·cases h;exact ⟨Tryz.f70,Tryz.func70,chk89 G,by kernel_rfl⟩
 ·cases h;exact ⟨Tryz.f71,Tryz.func71,chk81 G,by kernel_rfl⟩
 ·cases h;exact ⟨Tryz.f72,Tryz.func72,chk82 G,by kernel_rfl⟩
 ·cases h;exact ⟨Tryz.f73,Tryz.func73,chk83 G,by kernel_rfl⟩
 ·cases h;exact ⟨Tryz.f74,Tryz.func74,chk91 G,by kernel_rfl⟩
 ·cases h;exact ⟨Tryz.f75,Tryz.func75,chk90 G,by kernel_rfl⟩
 ·cases h;exact ⟨Tryz.f76,Tryz.func76,chk92 G,by kernel_rfl⟩
 ·cases h;exact ⟨Tryz.f77,Tryz.func77,chk93 G,by kernel_rfl⟩
 ·cases h;exact ⟨Tryz.f78,Tryz.func78,chk3 G,by kernel_rfl⟩
 ·cases h;exact ⟨Tryz.f79,Tryz.func79,chk35 G,by kernel_rfl⟩
 ·cases h;exact ⟨Tryz.f81,Tryz.func81,chk76 G,by kernel_rfl⟩
 ·cases h;exact ⟨Tryz.f84,Tryz.func84,chk95 G,by kernel_rfl⟩
 ·cases h;exact ⟨Tryz.f87,Tryz.func87,chk85 G,by kernel_rfl⟩
 ·cases h;exact ⟨Tryz.f88,Tryz.func88,chk98 G,by kernel_rfl⟩
 ·cases h;exact ⟨Tryz.f89,Tryz.func89,chk99 G,by kernel_rfl⟩
 ·cases h;exact ⟨Tryz.f90,Tryz.func90,chk100 G,by kernel_rfl⟩
 ·cases h;exact ⟨Tryz.f91,Tryz.func91,chk101 G,by kernel_rfl⟩
 ·cases h;exact ⟨Tryz.f92,Tryz.func92,chk102 G,by kernel_rfl⟩
 ·cases h;exact ⟨Tryz.f93,Tryz.func93,chk37 G,by kernel_rfl⟩
 ·cases h;exact ⟨Tryz.f94,Tryz.func94,chk60 G,by kernel_rfl⟩
 ·cases h;exact ⟨Tryz.f97,Tryz.func97,chk104 G,by kernel_rfl⟩
 ·cases h;exact ⟨Tryz.f98,Tryz.func98,chk105 G,by kernel_rfl⟩
 ·cases h;exact ⟨Tryz.f99,Tryz.func99,chk106 G,by kernel_rfl⟩
 ·cases h;exact ⟨Tryz.f100,Tryz.func100,chk107 G,by kernel_rfl⟩
 ·cases h;exact ⟨Tryz.f101,Tryz.func101,chk108 G,by kernel_rfl⟩
 ·cases h;exact ⟨Tryz.f102,Tryz.func102,chk109 G,by kernel_rfl⟩
 ·cases h;exact ⟨Tryz.f103,Tryz.func103,chk110 G,by kernel_rfl⟩
 ·cases h;exact ⟨Tryz.f104,Tryz.func104,chk111 G,by kernel_rfl⟩
 ·cases h;exact ⟨Tryz.f105,Tryz.func105,chk61 G,by kernel_rfl⟩
 ·cases h;exact ⟨Tryz.f106,Tryz.func106,chk62 G,by kernel_rfl⟩
 ·cases h;exact ⟨Tryz.f108,Tryz.func108,chk113 G,by kernel_rfl⟩
 ·cases h;exact ⟨Tryz.f109,Tryz.func109,chk114 G,by kernel_rfl⟩
 ·cases h;exact ⟨Tryz.f110,Tryz.func110,chk115 G,by kernel_rfl⟩
 ·cases h;exact ⟨Tryz.f111,Tryz.func111,chk117 G,by kernel_rfl⟩
 ·cases h;exact ⟨Tryz.f112,Tryz.func112,chk116 G,by kernel_rfl⟩
 ·cases h;exact ⟨Tryz.f113,Tryz.func113,chk118 G,by kernel_rfl⟩
 ·cases h;exact ⟨Tryz.f114,Tryz.func114,chk119 G,by kernel_rfl⟩
 ·cases h;exact ⟨Tryz.f115,Tryz.func115,chk120 G,by kernel_rfl⟩
 ·cases h;exact ⟨Tryz.f116,Tryz.func116,chk121 G,by kernel_rfl⟩
 ·cases h;exact ⟨Tryz.f117,Tryz.func117,chk122 G,by kernel_rfl⟩
 ·cases h;exact ⟨Tryz.f118,Tryz.func118,chk84 G,by kernel_rfl⟩
 ·cases h;exact ⟨Tryz.f123,Tryz.func123,chk124 G,by kernel_rfl⟩
 ·cases h;exact ⟨Tryz.f124,Tryz.func124,chk125 G,by kernel_rfl⟩
 ·cases h;exact ⟨Tryz.f125,Tryz.func125,chk126 G,by kernel_rfl⟩
 ·cases h;exact ⟨Tryz.f126,Tryz.func126,chk127 G,by kernel_rfl⟩
 ·cases h;exact ⟨Tryz.f127,Tryz.func127,chk128 G,by kernel_rfl⟩
 ·cases h;exact ⟨Tryz.f130,Tryz.func130,chk133 G,by kernel_rfl⟩
 ·cases h;exact ⟨Tryz.f131,Tryz.func131,chk134 G,by kernel_rfl⟩
 ·cases h;exact ⟨Tryz.f132,Tryz.func132,chk135 G,by kernel_rfl⟩
 ·cases h;exact ⟨Tryz.f133,Tryz.func133,chk136 G,by kernel_rfl⟩
 ·cases h;exact ⟨Tryz.f134,Tryz.func134,chk137 G,by kernel_rfl⟩
 ·cases h;exact ⟨Tryz.f135,Tryz.func135,chk138 G,by kernel_rfl⟩
 ·cases h

end Go.Proofs.YtfcgnpphabplbaaGreat

