/- The functions checked against the loaded program. -/
import Derived.Test.YtfcgnpphabplbaaTc
import Derived.Test.YtfcgnpphabplbaaTe
import Derived.Test.YtfcgnpphabplbaaProg
set_option linter.unusedVariables false
set_option linter.unusedSimpArgs false

set_option maxRecDepth 100000

namespace Go.Proofs.Ytfcgnpphabplbaa
open Go.Ak

def fmTry:Nat→Nat
 | 1=>3
 | 2=>9
 | 3=>11
 | 4=>10
 | 5=>13
 | 6=>12
 | 7=>4
 | 8=>14
 | 9=>15
 | 10=>16
 | 11=>17
 | 12=>18
 | 13=>5
 | 14=>19
 | 15=>20
 | 16=>21
 | 17=>6
 | 18=>22
 | 19=>23
 | 20=>24
 | 21=>7
 | 22=>25
 | 23=>26
 | 24=>8
 | 25=>27
 | 26=>28
 | 27=>30
 | 28=>29
 | 29=>31
 | 30=>32
 | 31=>33
 | 32=>34
 | 33=>35
 | 34=>36
 | 35=>37
 | 36=>39
 | 37=>38
 | 38=>40
 | 39=>41
 | 40=>42
 | 41=>43
 | 42=>44
 | 43=>46
 | 44=>47
 | 45=>48
 | 46=>49
 | 47=>50
 | 48=>51
 | 49=>52
 | 50=>53
 | 51=>54
 | 52=>56
 | 53=>55
 | 54=>57
 | 55=>58
 | 56=>59
 | 57=>60
 | 58=>62
 | 59=>61
 | 60=>63
 | 61=>64
 | 62=>65
 | 63=>66
 | 64=>67
 | 65=>69
 | 66=>70
 | 67=>45
 | 68=>71
 | 69=>72
 | 70=>73
 | 71=>74
 | 72=>75
 | 73=>76
 | 74=>77
 | 75=>78
 | 76=>79
 | 77=>81
 | 78=>80
 | 79=>82
 | 80=>83
 | 81=>84
 | 82=>85
 | 83=>86
 | 84=>87
 | 85=>88
 | 86=>68
 | 87=>89
 | 88=>90
 | 89=>91
 | 90=>93
 | 91=>92
 | 92=>94
 | 93=>95
 | 94=>97
 | 95=>98
 | 96=>100
 | 97=>99
 | 98=>101
 | 99=>102
 | 100=>103
 | 101=>104
 | 102=>105
 | 103=>106
 | 104=>107
 | 105=>108
 | 106=>109
 | 107=>110
 | 108=>111
 | 109=>112
 | 110=>113
 | 111=>114
 | 112=>115
 | 113=>116
 | 114=>117
 | 115=>118
 | 116=>120
 | 117=>119
 | 118=>121
 | 119=>122
 | 120=>123
 | 121=>124
 | 122=>125
 | 123=>126
 | 124=>130
 | 125=>131
 | 126=>132
 | 127=>133
 | 128=>134
 | 129=>135
 | 130=>128
 | 131=>129
 | 132=>136
 | 133=>137
 | 134=>138
 | 135=>139
 | 136=>140
 | 137=>141
 | 138=>142
 | 139=>2
 | 140=>1
 | _=>0

def tmTry:Nat→Nat
 | 1=>125
 | 2=>99
 | 3=>96
 | 4=>94
 | 5=>5
 | 6=>9
 | _=>0

noncomputable def zar (G:Nat→Option Obj):Tr:=⟨Try.prog,fmTry,tmTry,G⟩

/-- auklet/aukletlaw07.MatchLongest -/
theorem chk13 (G:Nat→Option Obj):zal (zar G) a13 Try.f5=true:=by kernel_rfl
/-- auklet/aukletref05.Join -/
theorem chk3 (G:Nat→Option Obj):zal (zar G) a3 Try.f11=true:=by kernel_rfl
/-- (*auklet/nfa.Prog).Ends -/
theorem chk5 (G:Nat→Option Obj):zal (zar G) a5 Try.f13=true:=by kernel_rfl
/-- auklet/aukletlaw07.Light -/
theorem chk8 (G:Nat→Option Obj):zal (zar G) a8 Try.f14=true:=by kernel_rfl
/-- auklet/aukletlaw07.lives -/
theorem chk9 (G:Nat→Option Obj):zal (zar G) a9 Try.f15=true:=by kernel_rfl
/-- auklet/match.New -/
theorem chk10 (G:Nat→Option Obj):zal (zar G) a10 Try.f16=true:=by kernel_rfl
/-- auklet/aukletref07.New -/
theorem chk14 (G:Nat→Option Obj):zal (zar G) a14 Try.f19=true:=by kernel_rfl
/-- (*auklet/match.Pattern).Find -/
theorem chk15 (G:Nat→Option Obj):zal (zar G) a15 Try.f20=true:=by kernel_rfl
/-- auklet/aukletref06.Ends -/
theorem chk16 (G:Nat→Option Obj):zal (zar G) a16 Try.f21=true:=by kernel_rfl
/-- auklet/nfa.Build -/
theorem chk34 (G:Nat→Option Obj):zal (zar G) a34 Try.f36=true:=by kernel_rfl
/-- (*auklet/nfa.Prog).Longest -/
theorem chk35 (G:Nat→Option Obj):zal (zar G) a35 Try.f37=true:=by kernel_rfl
/-- (*auklet/nfa.Prog).ends -/
theorem chk37 (G:Nat→Option Obj):zal (zar G) a37 Try.f38=true:=by kernel_rfl
/-- (*auklet/nfa.Prog).Ends$1 -/
theorem chk36 (G:Nat→Option Obj):zal (zar G) a36 Try.f39=true:=by kernel_rfl
/-- auklet/aukletlaw06.Light -/
theorem chk38 (G:Nat→Option Obj):zal (zar G) a38 Try.f40=true:=by kernel_rfl
/-- auklet/aukletref07.Same -/
theorem chk39 (G:Nat→Option Obj):zal (zar G) a39 Try.f41=true:=by kernel_rfl
/-- (*auklet/match.Pattern).Text -/
theorem chk40 (G:Nat→Option Obj):zal (zar G) a40 Try.f42=true:=by kernel_rfl
/-- auklet/ere.Least -/
theorem chk42 (G:Nat→Option Obj):zal (zar G) a42 Try.f44=true:=by kernel_rfl
/-- (*auklet/match.Pattern).find -/
theorem chk43 (G:Nat→Option Obj):zal (zar G) a43 Try.f46=true:=by kernel_rfl
/-- auklet/aukletref05.Parse -/
theorem chk44 (G:Nat→Option Obj):zal (zar G) a44 Try.f47=true:=by kernel_rfl
/-- auklet/aukletref06.States -/
theorem chk45 (G:Nat→Option Obj):zal (zar G) a45 Try.f48=true:=by kernel_rfl
/-- auklet/aukletref06.Table -/
theorem chk46 (G:Nat→Option Obj):zal (zar G) a46 Try.f49=true:=by kernel_rfl
/-- auklet/nfa.states -/
theorem chk57 (G:Nat→Option Obj):zal (zar G) a57 Try.f60=true:=by kernel_rfl
/-- (*auklet/nfa.Prog).build -/
theorem chk59 (G:Nat→Option Obj):zal (zar G) a59 Try.f61=true:=by kernel_rfl
/-- (*auklet/nfa.Prog).add -/
theorem chk58 (G:Nat→Option Obj):zal (zar G) a58 Try.f62=true:=by kernel_rfl
/-- (*auklet/nfa.Prog).Longest$1 -/
theorem chk60 (G:Nat→Option Obj):zal (zar G) a60 Try.f63=true:=by kernel_rfl
/-- (*auklet/nfa.run).enter -/
theorem chk61 (G:Nat→Option Obj):zal (zar G) a61 Try.f64=true:=by kernel_rfl
/-- auklet/class.Has -/
theorem chk62 (G:Nat→Option Obj):zal (zar G) a62 Try.f65=true:=by kernel_rfl
/-- auklet/aukletlaw05.Small -/
theorem chk63 (G:Nat→Option Obj):zal (zar G) a63 Try.f66=true:=by kernel_rfl
/-- (*auklet/ere.reader).pattern -/
theorem chk86 (G:Nat→Option Obj):zal (zar G) a86 Try.f68=true:=by kernel_rfl
/-- auklet/ere.can -/
theorem chk65 (G:Nat→Option Obj):zal (zar G) a65 Try.f69=true:=by kernel_rfl
/-- auklet/ere.least -/
theorem chk66 (G:Nat→Option Obj):zal (zar G) a66 Try.f70=true:=by kernel_rfl
/-- (*auklet/aukletref05.P).pattern -/
theorem chk69 (G:Nat→Option Obj):zal (zar G) a69 Try.f72=true:=by kernel_rfl
/-- auklet/aukletref05.Can -/
theorem chk70 (G:Nat→Option Obj):zal (zar G) a70 Try.f73=true:=by kernel_rfl
/-- auklet/aukletref06.count -/
theorem chk71 (G:Nat→Option Obj):zal (zar G) a71 Try.f74=true:=by kernel_rfl
/-- auklet/aukletref04.Of -/
theorem chk72 (G:Nat→Option Obj):zal (zar G) a72 Try.f75=true:=by kernel_rfl
/-- auklet/aukletref06.then -/
theorem chk73 (G:Nat→Option Obj):zal (zar G) a73 Try.f76=true:=by kernel_rfl
/-- auklet/aukletref06.either -/
theorem chk74 (G:Nat→Option Obj):zal (zar G) a74 Try.f77=true:=by kernel_rfl
/-- auklet/aukletref06.often -/
theorem chk75 (G:Nat→Option Obj):zal (zar G) a75 Try.f78=true:=by kernel_rfl
/-- auklet/ere.Can -/
theorem chk81 (G:Nat→Option Obj):zal (zar G) a81 Try.f84=true:=by kernel_rfl
/-- auklet/nfa.count -/
theorem chk82 (G:Nat→Option Obj):zal (zar G) a82 Try.f85=true:=by kernel_rfl
/-- (*auklet/nfa.Prog).rep -/
theorem chk83 (G:Nat→Option Obj):zal (zar G) a83 Try.f86=true:=by kernel_rfl
/-- auklet/class.has -/
theorem chk84 (G:Nat→Option Obj):zal (zar G) a84 Try.f87=true:=by kernel_rfl
/-- auklet/aukletref05.Parts -/
theorem chk85 (G:Nat→Option Obj):zal (zar G) a85 Try.f88=true:=by kernel_rfl
/-- (*auklet/ere.reader).branch -/
theorem chk87 (G:Nat→Option Obj):zal (zar G) a87 Try.f89=true:=by kernel_rfl
/-- (*auklet/ere.reader).goes -/
theorem chk88 (G:Nat→Option Obj):zal (zar G) a88 Try.f90=true:=by kernel_rfl
/-- auklet/ere.joined -/
theorem chk89 (G:Nat→Option Obj):zal (zar G) a89 Try.f91=true:=by kernel_rfl
/-- slices.ContainsFunc[[]auklet/api.Re,auklet/api.Re] -/
theorem chk91 (G:Nat→Option Obj):zal (zar G) a91 Try.f92=true:=by kernel_rfl
/-- auklet/ere.can$1 -/
theorem chk90 (G:Nat→Option Obj):zal (zar G) a90 Try.f93=true:=by kernel_rfl
/-- (*auklet/aukletref05.P).branch -/
theorem chk92 (G:Nat→Option Obj):zal (zar G) a92 Try.f94=true:=by kernel_rfl
/-- (*auklet/aukletref05.P).c -/
theorem chk93 (G:Nat→Option Obj):zal (zar G) a93 Try.f95=true:=by kernel_rfl
/-- strings.Cut -/
theorem chk95 (G:Nat→Option Obj):zal (zar G) a95 Try.f98=true:=by kernel_rfl
/-- (*auklet/ere.reader).peek -/
theorem chk98 (G:Nat→Option Obj):zal (zar G) a98 Try.f101=true:=by kernel_rfl
/-- (*auklet/ere.reader).piece -/
theorem chk99 (G:Nat→Option Obj):zal (zar G) a99 Try.f102=true:=by kernel_rfl
/-- slices.IndexFunc[[]auklet/api.Re,auklet/api.Re] -/
theorem chk100 (G:Nat→Option Obj):zal (zar G) a100 Try.f103=true:=by kernel_rfl
/-- (*auklet/aukletref05.P).atom -/
theorem chk101 (G:Nat→Option Obj):zal (zar G) a101 Try.f104=true:=by kernel_rfl
/-- (*auklet/aukletref05.P).reps -/
theorem chk102 (G:Nat→Option Obj):zal (zar G) a102 Try.f105=true:=by kernel_rfl
/-- internal/stringslite.Cut -/
theorem chk104 (G:Nat→Option Obj):zal (zar G) a104 Try.f107=true:=by kernel_rfl
/-- (*auklet/ere.reader).atom -/
theorem chk105 (G:Nat→Option Obj):zal (zar G) a105 Try.f108=true:=by kernel_rfl
/-- (*auklet/ere.reader).times -/
theorem chk106 (G:Nat→Option Obj):zal (zar G) a106 Try.f109=true:=by kernel_rfl
/-- (*auklet/aukletref05.P).bad -/
theorem chk107 (G:Nat→Option Obj):zal (zar G) a107 Try.f110=true:=by kernel_rfl
/-- auklet/aukletref04.Parse -/
theorem chk108 (G:Nat→Option Obj):zal (zar G) a108 Try.f111=true:=by kernel_rfl
/-- auklet/aukletref05.one -/
theorem chk109 (G:Nat→Option Obj):zal (zar G) a109 Try.f112=true:=by kernel_rfl
/-- auklet/aukletref05.All -/
theorem chk110 (G:Nat→Option Obj):zal (zar G) a110 Try.f113=true:=by kernel_rfl
/-- (*auklet/aukletref05.P).num -/
theorem chk111 (G:Nat→Option Obj):zal (zar G) a111 Try.f114=true:=by kernel_rfl
/-- (*auklet/ere.reader).fail -/
theorem chk113 (G:Nat→Option Obj):zal (zar G) a113 Try.f116=true:=by kernel_rfl
/-- auklet/class.Parse -/
theorem chk114 (G:Nat→Option Obj):zal (zar G) a114 Try.f117=true:=by kernel_rfl
/-- auklet/class.Not -/
theorem chk115 (G:Nat→Option Obj):zal (zar G) a115 Try.f118=true:=by kernel_rfl
/-- auklet/ere.one -/
theorem chk117 (G:Nat→Option Obj):zal (zar G) a117 Try.f119=true:=by kernel_rfl
/-- (*auklet/ere.reader).stroke -/
theorem chk116 (G:Nat→Option Obj):zal (zar G) a116 Try.f120=true:=by kernel_rfl
/-- (*auklet/ere.reader).number -/
theorem chk118 (G:Nat→Option Obj):zal (zar G) a118 Try.f121=true:=by kernel_rfl
/-- auklet/aukletref04.at -/
theorem chk119 (G:Nat→Option Obj):zal (zar G) a119 Try.f122=true:=by kernel_rfl
/-- auklet/aukletref04.Named -/
theorem chk120 (G:Nat→Option Obj):zal (zar G) a120 Try.f123=true:=by kernel_rfl
/-- auklet/aukletref04.single -/
theorem chk121 (G:Nat→Option Obj):zal (zar G) a121 Try.f124=true:=by kernel_rfl
/-- (auklet/aukletref04.B).Set -/
theorem chk122 (G:Nat→Option Obj):zal (zar G) a122 Try.f125=true:=by kernel_rfl
/-- (*auklet/class.reader).comes -/
theorem chk124 (G:Nat→Option Obj):zal (zar G) a124 Try.f130=true:=by kernel_rfl
/-- (*auklet/class.reader).item -/
theorem chk125 (G:Nat→Option Obj):zal (zar G) a125 Try.f131=true:=by kernel_rfl
/-- auklet/class.union -/
theorem chk126 (G:Nat→Option Obj):zal (zar G) a126 Try.f132=true:=by kernel_rfl
/-- auklet/class.not -/
theorem chk127 (G:Nat→Option Obj):zal (zar G) a127 Try.f133=true:=by kernel_rfl
/-- auklet/class.Add -/
theorem chk128 (G:Nat→Option Obj):zal (zar G) a128 Try.f134=true:=by kernel_rfl
/-- strings.HasPrefix -/
theorem chk133 (G:Nat→Option Obj):zal (zar G) a133 Try.f137=true:=by kernel_rfl
/-- auklet/class.named -/
theorem chk134 (G:Nat→Option Obj):zal (zar G) a134 Try.f138=true:=by kernel_rfl
/-- (*auklet/class.reader).single -/
theorem chk135 (G:Nat→Option Obj):zal (zar G) a135 Try.f139=true:=by kernel_rfl
/-- auklet/class.add -/
theorem chk136 (G:Nat→Option Obj):zal (zar G) a136 Try.f140=true:=by kernel_rfl
/-- internal/stringslite.HasPrefix -/
theorem chk137 (G:Nat→Option Obj):zal (zar G) a137 Try.f141=true:=by kernel_rfl
/-- auklet/class.ranges -/
theorem chk138 (G:Nat→Option Obj):zal (zar G) a138 Try.f142=true:=by kernel_rfl

theorem fsOKTry (G:Nat→Option Obj):FsOK (zar G) fsT:=by
 intro f F h
 unfold fsT at h
 split at h
 ·cases h;exact ⟨Try.f5,Try.func5,chk13 G,by kernel_rfl⟩
 ·cases h;exact ⟨Try.f11,Try.func11,chk3 G,by kernel_rfl⟩
 ·cases h;exact ⟨Try.f13,Try.func13,chk5 G,by kernel_rfl⟩
 ·cases h;exact ⟨Try.f14,Try.func14,chk8 G,by kernel_rfl⟩
 ·cases h;exact ⟨Try.f15,Try.func15,chk9 G,by kernel_rfl⟩
 ·cases h;exact ⟨Try.f16,Try.func16,chk10 G,by kernel_rfl⟩
 ·cases h;exact ⟨Try.f19,Try.func19,chk14 G,by kernel_rfl⟩
 ·cases h;exact ⟨Try.f20,Try.func20,chk15 G,by kernel_rfl⟩
 ·cases h;exact ⟨Try.f21,Try.func21,chk16 G,by kernel_rfl⟩
 ·cases h;exact ⟨Try.f36,Try.func36,chk34 G,by kernel_rfl⟩
 ·cases h;exact ⟨Try.f37,Try.func37,chk35 G,by kernel_rfl⟩
 ·cases h;exact ⟨Try.f38,Try.func38,chk37 G,by kernel_rfl⟩
 ·cases h;exact ⟨Try.f39,Try.func39,chk36 G,by kernel_rfl⟩
 ·cases h;exact ⟨Try.f40,Try.func40,chk38 G,by kernel_rfl⟩
 ·cases h;exact ⟨Try.f41,Try.func41,chk39 G,by kernel_rfl⟩
 ·cases h;exact ⟨Try.f42,Try.func42,chk40 G,by kernel_rfl⟩
 ·cases h;exact ⟨Try.f44,Try.func44,chk42 G,by kernel_rfl⟩
 ·cases h;exact ⟨Try.f46,Try.func46,chk43 G,by kernel_rfl⟩
 ·cases h;exact ⟨Try.f47,Try.func47,chk44 G,by kernel_rfl⟩
 ·cases h;exact ⟨Try.f48,Try.func48,chk45 G,by kernel_rfl⟩
 ·cases h;exact ⟨Try.f49,Try.func49,chk46 G,by kernel_rfl⟩
 ·cases h;exact ⟨Try.f60,Try.func60,chk57 G,by kernel_rfl⟩
 ·cases h;exact ⟨Try.f61,Try.func61,chk59 G,by kernel_rfl⟩
 ·cases h;exact ⟨Try.f62,Try.func62,chk58 G,by kernel_rfl⟩
 ·cases h;exact ⟨Try.f63,Try.func63,chk60 G,by kernel_rfl⟩
 ·cases h;exact ⟨Try.f64,Try.func64,chk61 G,by kernel_rfl⟩
 ·cases h;exact ⟨Try.f65,Try.func65,chk62 G,by kernel_rfl⟩
 ·cases h;exact ⟨Try.f66,Try.func66,chk63 G,by kernel_rfl⟩
 ·cases h;exact ⟨Try.f68,Try.func68,chk86 G,by kernel_rfl⟩
 ·cases h;exact ⟨Try.f69,Try.func69,chk65 G,by kernel_rfl⟩
 ·cases h;exact ⟨Try.f70,Try.func70,chk66 G,by kernel_rfl⟩
 ·cases h;exact ⟨Try.f72,Try.func72,chk69 G,by kernel_rfl⟩
 ·cases h;exact ⟨Try.f73,Try.func73,chk70 G,by kernel_rfl⟩
 ·cases h;exact ⟨Try.f74,Try.func74,chk71 G,by kernel_rfl⟩
 ·cases h;exact ⟨Try.f75,Try.func75,chk72 G,by kernel_rfl⟩
 ·cases h;exact ⟨Try.f76,Try.func76,chk73 G,by kernel_rfl⟩
 ·cases h;exact ⟨Try.f77,Try.func77,chk74 G,by kernel_rfl⟩
 ·cases h;exact ⟨Try.f78,Try.func78,chk75 G,by kernel_rfl⟩
 ·cases h;exact ⟨Try.f84,Try.func84,chk81 G,by kernel_rfl⟩
 ·cases h;exact ⟨Try.f85,Try.func85,chk82 G,by kernel_rfl⟩
 ·cases h;exact ⟨Try.f86,Try.func86,chk83 G,by kernel_rfl⟩
 ·cases h;exact ⟨Try.f87,Try.func87,chk84 G,by kernel_rfl⟩
 ·cases h;exact ⟨Try.f88,Try.func88,chk85 G,by kernel_rfl⟩
 ·cases h;exact ⟨Try.f89,Try.func89,chk87 G,by kernel_rfl⟩
 ·cases h;exact ⟨Try.f90,Try.func90,chk88 G,by kernel_rfl⟩
 ·cases h;exact ⟨Try.f91,Try.func91,chk89 G,by kernel_rfl⟩
 ·cases h;exact ⟨Try.f92,Try.func92,chk91 G,by kernel_rfl⟩
 ·cases h;exact ⟨Try.f93,Try.func93,chk90 G,by kernel_rfl⟩
 ·cases h;exact ⟨Try.f94,Try.func94,chk92 G,by kernel_rfl⟩
 ·cases h;exact ⟨Try.f95,Try.func95,chk93 G,by kernel_rfl⟩
 ·cases h;exact ⟨Try.f98,Try.func98,chk95 G,by kernel_rfl⟩
 ·cases h;exact ⟨Try.f101,Try.func101,chk98 G,by kernel_rfl⟩
 ·cases h;exact ⟨Try.f102,Try.func102,chk99 G,by kernel_rfl⟩
 ·cases h;exact ⟨Try.f103,Try.func103,chk100 G,by kernel_rfl⟩
 ·cases h;exact ⟨Try.f104,Try.func104,chk101 G,by kernel_rfl⟩
 ·cases h;exact ⟨Try.f105,Try.func105,chk102 G,by kernel_rfl⟩
 ·cases h;exact ⟨Try.f107,Try.func107,chk104 G,by kernel_rfl⟩
 ·cases h;exact ⟨Try.f108,Try.func108,chk105 G,by kernel_rfl⟩
 ·cases h;exact ⟨Try.f109,Try.func109,chk106 G,by kernel_rfl⟩
 ·cases h;exact ⟨Try.f110,Try.func110,chk107 G,by kernel_rfl⟩
 ·cases h;exact ⟨Try.f111,Try.func111,chk108 G,by kernel_rfl⟩
 ·cases h;exact ⟨Try.f112,Try.func112,chk109 G,by kernel_rfl⟩
 ·cases h;exact ⟨Try.f113,Try.func113,chk110 G,by kernel_rfl⟩
 ·cases h;exact ⟨Try.f114,Try.func114,chk111 G,by kernel_rfl⟩
 ·cases h;exact ⟨Try.f116,Try.func116,chk113 G,by kernel_rfl⟩
 ·cases h;exact ⟨Try.f117,Try.func117,chk114 G,by kernel_rfl⟩
 ·cases h;exact ⟨Try.f118,Try.func118,chk115 G,by kernel_rfl⟩
 ·cases h;exact ⟨Try.f119,Try.func119,chk117 G,by kernel_rfl⟩
 ·cases h;exact ⟨Try.f120,Try.func120,chk116 G,by kernel_rfl⟩
 ·cases h;exact ⟨Try.f121,Try.func121,chk118 G,by kernel_rfl⟩
 ·cases h;exact ⟨Try.f122,Try.func122,chk119 G,by kernel_rfl⟩
 ·cases h;exact ⟨Try.f123,Try.func123,chk120 G,by kernel_rfl⟩
 ·cases h;exact ⟨Try.f124,Try.func124,chk121 G,by kernel_rfl⟩
 ·cases h;exact ⟨Try.f125,Try.func125,chk122 G,by kernel_rfl⟩
 ·cases h;exact ⟨Try.f130,Try.func130,chk124 G,by kernel_rfl⟩
 ·cases h;exact ⟨Try.f131,Try.func131,chk125 G,by kernel_rfl⟩
 ·cases h;exact ⟨Try.f132,Try.func132,chk126 G,by kernel_rfl⟩
 ·cases h;exact ⟨Try.f133,Try.func133,chk127 G,by kernel_rfl⟩
 ·cases h;exact ⟨Try.f134,Try.func134,chk128 G,by kernel_rfl⟩
 ·cases h;exact ⟨Try.f137,Try.func137,chk133 G,by kernel_rfl⟩
 ·cases h;exact ⟨Try.f138,Try.func138,chk134 G,by kernel_rfl⟩
 ·cases h;exact ⟨Try.f139,Try.func139,chk135 G,by kernel_rfl⟩
 ·cases h;exact ⟨Try.f140,Try.func140,chk136 G,by kernel_rfl⟩
 ·cases h;exact ⟨Try.f141,Try.func141,chk137 G,by kernel_rfl⟩
 ·cases h;exact ⟨Try.f142,Try.func142,chk138 G,by kernel_rfl⟩
 ·cases h

end Go.Proofs.Ytfcgnpphabplbaa

