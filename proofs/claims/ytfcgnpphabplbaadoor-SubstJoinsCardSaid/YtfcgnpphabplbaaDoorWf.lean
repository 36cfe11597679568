/- The functions checked against the loaded program. -/
import Derived.Test.YtfcgnpphabplbaaDoorWc
import Derived.Test.YtfcgnpphabplbaaDoorWe
import Derived.Test.YtfcgnpphabplbaaDoorProg
set_option linter.unusedVariables false
set_option linter.unusedSimpArgs false

set_option maxRecDepth 100000

namespace Go.Proofs.YtfcgnpphabplbaaDoor
open Go.Ak

def fmTryd:Nat→Nat
 | 10=>7
 | 11=>18
 | 19=>4
 | 20=>8
 | 34=>15
 | 35=>62
 | 37=>69
 | 40=>110
 | 41=>14
 | 42=>16
 | 43=>51
 | 47=>17
 | 48=>33
 | 51=>24
 | 55=>25
 | 57=>28
 | 58=>30
 | 59=>29
 | 60=>70
 | 61=>78
 | 62=>79
 | 64=>26
 | 65=>31
 | 66=>32
 | 67=>34
 | 68=>50
 | 76=>49
 | 79=>39
 | 81=>44
 | 82=>45
 | 83=>46
 | 84=>85
 | 86=>27
 | 87=>41
 | 88=>42
 | 89=>43
 | 90=>48
 | 91=>47
 | 95=>87
 | 98=>59
 | 99=>60
 | 100=>61
 | 104=>92
 | 105=>67
 | 106=>68
 | 112=>56
 | 113=>72
 | 114=>73
 | 115=>74
 | 116=>76
 | 117=>75
 | 118=>77
 | 123=>35
 | 124=>80
 | 125=>81
 | 126=>82
 | 127=>83
 | 128=>84
 | 129=>52
 | 130=>65
 | 131=>66
 | 132=>71
 | 133=>86
 | 134=>88
 | 135=>89
 | 136=>90
 | 137=>91
 | 138=>93
 | 139=>2
 | 140=>1
 | 153=>11
 | 157=>5
 | 180=>9
 | 181=>10
 | 182=>12
 | 190=>20
 | 191=>19
 | 192=>22
 | 194=>6
 | 198=>21
 | 199=>36
 | 200=>37
 | 201=>38
 | 202=>13
 | 208=>53
 | 209=>54
 | 210=>55
 | 211=>23
 | 218=>63
 | 229=>40
 | 230=>58
 | 237=>118
 | 238=>3
 | _=>0

def tmTryd:Nat→Nat
 | 1=>70
 | 4=>62
 | 5=>5
 | 6=>9
 | _=>0

noncomputable def zaa (G:Nat→Option Obj):Tr:=⟨Tryd.prog,fmTryd,tmTryd,G⟩

/-- auklet/aukletlaw08.SubstJoins -/
theorem chk238 (G:Nat→Option Obj):zac (zaa G) a238 Tryd.f3=true:=by kernel_rfl
/-- auklet/aukletlaw08.lives -/
theorem chk19 (G:Nat→Option Obj):zac (zaa G) a19 Tryd.f4=true:=by kernel_rfl
/-- auklet/subst.At -/
theorem chk157 (G:Nat→Option Obj):zac (zaa G) a157 Tryd.f5=true:=by kernel_rfl
/-- auklet/subst.Join -/
theorem chk194 (G:Nat→Option Obj):zac (zaa G) a194 Tryd.f6=true:=by kernel_rfl
/-- auklet/match.New -/
theorem chk10 (G:Nat→Option Obj):zac (zaa G) a10 Tryd.f7=true:=by kernel_rfl
/-- auklet/subst.All -/
theorem chk20 (G:Nat→Option Obj):zac (zaa G) a20 Tryd.f8=true:=by kernel_rfl
/-- auklet/text.Words -/
theorem chk180 (G:Nat→Option Obj):zac (zaa G) a180 Tryd.f9=true:=by kernel_rfl
/-- auklet/subst.split -/
theorem chk153 (G:Nat→Option Obj):zac (zaa G) a153 Tryd.f11=true:=by kernel_rfl
/-- auklet/nfa.Build -/
theorem chk34 (G:Nat→Option Obj):zac (zaa G) a34 Tryd.f15=true:=by kernel_rfl
/-- auklet/ere.Least -/
theorem chk42 (G:Nat→Option Obj):zac (zaa G) a42 Tryd.f16=true:=by kernel_rfl
/-- auklet/subst.replaced -/
theorem chk47 (G:Nat→Option Obj):zac (zaa G) a47 Tryd.f17=true:=by kernel_rfl
/-- auklet/text.Words$1 -/
theorem chk190 (G:Nat→Option Obj):zac (zaa G) a190 Tryd.f20=true:=by kernel_rfl
/-- strings.IndexByte -/
theorem chk198 (G:Nat→Option Obj):zac (zaa G) a198 Tryd.f21=true:=by kernel_rfl
/-- (*strings.Builder).WriteString -/
theorem chk51 (G:Nat→Option Obj):zac (zaa G) a51 Tryd.f24=true:=by kernel_rfl
/-- (*auklet/ere.reader).pattern -/
theorem chk86 (G:Nat→Option Obj):zac (zaa G) a86 Tryd.f27=true:=by kernel_rfl
/-- auklet/nfa.states -/
theorem chk57 (G:Nat→Option Obj):zac (zaa G) a57 Tryd.f28=true:=by kernel_rfl
/-- (*auklet/nfa.Prog).build -/
theorem chk59 (G:Nat→Option Obj):zac (zaa G) a59 Tryd.f29=true:=by kernel_rfl
/-- (*auklet/nfa.Prog).add -/
theorem chk58 (G:Nat→Option Obj):zac (zaa G) a58 Tryd.f30=true:=by kernel_rfl
/-- auklet/ere.can -/
theorem chk65 (G:Nat→Option Obj):zac (zaa G) a65 Tryd.f31=true:=by kernel_rfl
/-- auklet/ere.least -/
theorem chk66 (G:Nat→Option Obj):zac (zaa G) a66 Tryd.f32=true:=by kernel_rfl
/-- auklet/subst.put -/
theorem chk48 (G:Nat→Option Obj):zac (zaa G) a48 Tryd.f33=true:=by kernel_rfl
/-- internal/stringslite.IndexByte -/
theorem chk123 (G:Nat→Option Obj):zac (zaa G) a123 Tryd.f35=true:=by kernel_rfl
/-- (*auklet/ere.reader).branch -/
theorem chk87 (G:Nat→Option Obj):zac (zaa G) a87 Tryd.f41=true:=by kernel_rfl
/-- (*auklet/ere.reader).goes -/
theorem chk88 (G:Nat→Option Obj):zac (zaa G) a88 Tryd.f42=true:=by kernel_rfl
/-- auklet/ere.joined -/
theorem chk89 (G:Nat→Option Obj):zac (zaa G) a89 Tryd.f43=true:=by kernel_rfl
/-- auklet/ere.Can -/
theorem chk81 (G:Nat→Option Obj):zac (zaa G) a81 Tryd.f44=true:=by kernel_rfl
/-- auklet/nfa.count -/
theorem chk82 (G:Nat→Option Obj):zac (zaa G) a82 Tryd.f45=true:=by kernel_rfl
/-- (*auklet/nfa.Prog).rep -/
theorem chk83 (G:Nat→Option Obj):zac (zaa G) a83 Tryd.f46=true:=by kernel_rfl
/-- slices.ContainsFunc[[]auklet/api.Re,auklet/api.Re] -/
theorem chk91 (G:Nat→Option Obj):zac (zaa G) a91 Tryd.f47=true:=by kernel_rfl
/-- auklet/ere.can$1 -/
theorem chk90 (G:Nat→Option Obj):zac (zaa G) a90 Tryd.f48=true:=by kernel_rfl
/-- (*strings.Builder).WriteByte -/
theorem chk76 (G:Nat→Option Obj):zac (zaa G) a76 Tryd.f49=true:=by kernel_rfl
/-- (*auklet/match.Pattern).find -/
theorem chk43 (G:Nat→Option Obj):zac (zaa G) a43 Tryd.f51=true:=by kernel_rfl
/-- (*auklet/ere.reader).peek -/
theorem chk98 (G:Nat→Option Obj):zac (zaa G) a98 Tryd.f59=true:=by kernel_rfl
/-- (*auklet/ere.reader).piece -/
theorem chk99 (G:Nat→Option Obj):zac (zaa G) a99 Tryd.f60=true:=by kernel_rfl
/-- slices.IndexFunc[[]auklet/api.Re,auklet/api.Re] -/
theorem chk100 (G:Nat→Option Obj):zac (zaa G) a100 Tryd.f61=true:=by kernel_rfl
/-- (*auklet/nfa.Prog).Longest -/
theorem chk35 (G:Nat→Option Obj):zac (zaa G) a35 Tryd.f62=true:=by kernel_rfl
/-- (*auklet/ere.reader).atom -/
theorem chk105 (G:Nat→Option Obj):zac (zaa G) a105 Tryd.f67=true:=by kernel_rfl
/-- (*auklet/ere.reader).times -/
theorem chk106 (G:Nat→Option Obj):zac (zaa G) a106 Tryd.f68=true:=by kernel_rfl
/-- (*auklet/nfa.Prog).ends -/
theorem chk37 (G:Nat→Option Obj):zac (zaa G) a37 Tryd.f69=true:=by kernel_rfl
/-- (*auklet/nfa.Prog).Longest$1 -/
theorem chk60 (G:Nat→Option Obj):zac (zaa G) a60 Tryd.f70=true:=by kernel_rfl
/-- (*auklet/ere.reader).fail -/
theorem chk113 (G:Nat→Option Obj):zac (zaa G) a113 Tryd.f72=true:=by kernel_rfl
/-- auklet/class.Parse -/
theorem chk114 (G:Nat→Option Obj):zac (zaa G) a114 Tryd.f73=true:=by kernel_rfl
/-- auklet/class.Not -/
theorem chk115 (G:Nat→Option Obj):zac (zaa G) a115 Tryd.f74=true:=by kernel_rfl
/-- auklet/ere.one -/
theorem chk117 (G:Nat→Option Obj):zac (zaa G) a117 Tryd.f75=true:=by kernel_rfl
/-- (*auklet/ere.reader).stroke -/
theorem chk116 (G:Nat→Option Obj):zac (zaa G) a116 Tryd.f76=true:=by kernel_rfl
/-- (*auklet/ere.reader).number -/
theorem chk118 (G:Nat→Option Obj):zac (zaa G) a118 Tryd.f77=true:=by kernel_rfl
/-- (*auklet/nfa.run).enter -/
theorem chk61 (G:Nat→Option Obj):zac (zaa G) a61 Tryd.f78=true:=by kernel_rfl
/-- auklet/class.Has -/
theorem chk62 (G:Nat→Option Obj):zac (zaa G) a62 Tryd.f79=true:=by kernel_rfl
/-- (*auklet/class.reader).comes -/
theorem chk124 (G:Nat→Option Obj):zac (zaa G) a124 Tryd.f80=true:=by kernel_rfl
/-- (*auklet/class.reader).item -/
theorem chk125 (G:Nat→Option Obj):zac (zaa G) a125 Tryd.f81=true:=by kernel_rfl
/-- auklet/class.union -/
theorem chk126 (G:Nat→Option Obj):zac (zaa G) a126 Tryd.f82=true:=by kernel_rfl
/-- auklet/class.not -/
theorem chk127 (G:Nat→Option Obj):zac (zaa G) a127 Tryd.f83=true:=by kernel_rfl
/-- auklet/class.Add -/
theorem chk128 (G:Nat→Option Obj):zac (zaa G) a128 Tryd.f84=true:=by kernel_rfl
/-- auklet/class.has -/
theorem chk84 (G:Nat→Option Obj):zac (zaa G) a84 Tryd.f85=true:=by kernel_rfl
/-- strings.HasPrefix -/
theorem chk133 (G:Nat→Option Obj):zac (zaa G) a133 Tryd.f86=true:=by kernel_rfl
/-- strings.Cut -/
theorem chk95 (G:Nat→Option Obj):zac (zaa G) a95 Tryd.f87=true:=by kernel_rfl
/-- auklet/class.named -/
theorem chk134 (G:Nat→Option Obj):zac (zaa G) a134 Tryd.f88=true:=by kernel_rfl
/-- (*auklet/class.reader).single -/
theorem chk135 (G:Nat→Option Obj):zac (zaa G) a135 Tryd.f89=true:=by kernel_rfl
/-- auklet/class.add -/
theorem chk136 (G:Nat→Option Obj):zac (zaa G) a136 Tryd.f90=true:=by kernel_rfl
/-- internal/stringslite.HasPrefix -/
theorem chk137 (G:Nat→Option Obj):zac (zaa G) a137 Tryd.f91=true:=by kernel_rfl
/-- internal/stringslite.Cut -/
theorem chk104 (G:Nat→Option Obj):zac (zaa G) a104 Tryd.f92=true:=by kernel_rfl
/-- auklet/class.ranges -/
theorem chk138 (G:Nat→Option Obj):zac (zaa G) a138 Tryd.f93=true:=by kernel_rfl

theorem fsOKTryd (G:Nat→Option Obj):FsOK (zaa G) fsT:=by
 intro f F h
 unfold fsT at h
 split at h
 ·cases h;exact ⟨Tryd.f3,Tryd.func3,chk238 G,by kernel_rfl⟩
 ·cases h;exact ⟨Tryd.f4,Tryd.func4,chk19 G,by kernel_rfl⟩
 ·cases h;exact ⟨Tryd.f5,Tryd.func5,chk157 G,by kernel_rfl⟩
 ·cases h;exact ⟨Tryd.f6,Tryd.func6,chk194 G,by kernel_rfl⟩
 ·cases h;exact ⟨Tryd.f7,Tryd.func7,chk10 G,by kernel_rfl⟩
 ·cases h;exact ⟨Tryd.f8,Tryd.func8,chk20 G,by kernel_rfl⟩
 ·cases h;exact ⟨Tryd.f9,Tryd.func9,chk180 G,by kernel_rfl⟩
 ·cases h;exact ⟨Tryd.f11,Tryd.func11,chk153 G,by kernel_rfl⟩
 ·cases h;exact ⟨Tryd.f15,Tryd.func15,chk34 G,by kernel_rfl⟩
 ·cases h;exact ⟨Tryd.f16,Tryd.func16,chk42 G,by kernel_rfl⟩
 ·cases h;exact ⟨Tryd.f17,Tryd.func17,chk47 G,by kernel_rfl⟩
 ·cases h;exact ⟨Tryd.f20,Tryd.func20,chk190 G,by kernel_rfl⟩
 ·cases h;exact ⟨Tryd.f21,Tryd.func21,chk198 G,by kernel_rfl⟩
 ·cases h;exact ⟨Tryd.f24,Tryd.func24,chk51 G,by kernel_rfl⟩
 ·cases h;exact ⟨Tryd.f27,Tryd.func27,chk86 G,by kernel_rfl⟩
 ·cases h;exact ⟨Tryd.f28,Tryd.func28,chk57 G,by kernel_rfl⟩
 ·cases h;exact ⟨Tryd.f29,Tryd.func29,chk59 G,by kernel_rfl⟩
 ·cases h;exact ⟨Tryd.f30,Tryd.func30,chk58 G,by kernel_rfl⟩
 ·cases h;exact ⟨Tryd.f31,Tryd.func31,chk65 G,by kernel_rfl⟩
 ·cases h;exact ⟨Tryd.f32,Tryd.func32,chk66 G,by kernel_rfl⟩
 ·cases h;exact ⟨Tryd.f33,Tryd.func33,chk48 G,by kernel_rfl⟩
 ·cases h;exact ⟨Tryd.f35,Tryd.func35,chk123 G,by kernel_rfl⟩
 ·cases h;exact ⟨Tryd.f41,Tryd.func41,chk87 G,by kernel_rfl⟩
 ·cases h;exact ⟨Tryd.f42,Tryd.func42,chk88 G,by kernel_rfl⟩
 ·cases h;exact ⟨Tryd.f43,Tryd.func43,chk89 G,by kernel_rfl⟩
 ·cases h;exact ⟨Tryd.f44,Tryd.func44,chk81 G,by kernel_rfl⟩
 ·cases h;exact ⟨Tryd.f45,Tryd.func45,chk82 G,by kernel_rfl⟩
 ·cases h;exact ⟨Tryd.f46,Tryd.func46,chk83 G,by kernel_rfl⟩
 ·cases h;exact ⟨Tryd.f47,Tryd.func47,chk91 G,by kernel_rfl⟩
 ·cases h;exact ⟨Tryd.f48,Tryd.func48,chk90 G,by kernel_rfl⟩
 ·cases h;exact ⟨Tryd.f49,Tryd.func49,chk76 G,by kernel_rfl⟩
 ·cases h;exact ⟨Tryd.f51,Tryd.func51,chk43 G,by kernel_rfl⟩
 ·cases h;exact ⟨Tryd.f59,Tryd.func59,chk98 G,by kernel_rfl⟩
 ·cases h;exact ⟨Tryd.f60,Tryd.func60,chk99 G,by kernel_rfl⟩
 ·cases h;exact ⟨Tryd.f61,Tryd.func61,chk100 G,by kernel_rfl⟩
 ·cases h;exact ⟨Tryd.f62,Tryd.func62,chk35 G,by kernel_rfl⟩
 ·cases h;exact ⟨Tryd.f67,Tryd.func67,chk105 G,by kernel_rfl⟩
 ·cases h;exact ⟨Tryd.f68,Tryd.func68,chk106 G,by kernel_rfl⟩
 ·cases h;exact ⟨Tryd.f69,Tryd.func69,chk37 G,by kernel_rfl⟩
 ·cases h;exact ⟨Tryd.f70,Tryd.func70,chk60 G,by kernel_rfl⟩
 ·cases h;exact ⟨Tryd.f72,Tryd.func72,chk113 G,by kernel_rfl⟩
 ·cases h;exact ⟨Tryd.f73,Tryd.func73,chk114 G,by kernel_rfl⟩
 ·cases h;exact ⟨Tryd.f74,Tryd.func74,chk115 G,by kernel_rfl⟩
 ·cases h;exact ⟨Tryd.f75,Tryd.func75,chk117 G,by kernel_rfl⟩
 ·cases h;exact ⟨Tryd.f76,Tryd.func76,chk116 G,by kernel_rfl⟩
 ·cases h;exact ⟨Tryd.f77,Tryd.func77,chk118 G,by kernel_rfl⟩
 ·cases h;exact ⟨Tryd.f78,Tryd.func78,chk61 G,by kernel_rfl⟩
 ·cases h;exact ⟨Tryd.f79,Tryd.func79,chk62 G,by kernel_rfl⟩
 ·cases h;exact ⟨Tryd.f80,Tryd.func80,chk124 G,by kernel_rfl⟩
 ·cases h;exact ⟨Tryd.f81,Tryd.func81,chk125 G,by kernel_rfl⟩
 ·cases h;exact ⟨Tryd.f82,Tryd.func82,chk126 G,by kernel_rfl⟩
 ·cases h;exact ⟨Tryd.f83,Tryd.func83,chk127 G,by kernel_rfl⟩
 ·cases h;exact ⟨Tryd.f84,Tryd.func84,chk128 G,by kernel_rfl⟩
 ·cases h;exact ⟨Tryd.f85,Tryd.func85,chk84 G,by kernel_rfl⟩
 ·cases h;exact ⟨Tryd.f86,Tryd.func86,chk133 G,by kernel_rfl⟩
 ·cases h;exact ⟨Tryd.f87,Tryd.func87,chk95 G,by kernel_rfl⟩
 ·cases h;exact ⟨Tryd.f88,Tryd.func88,chk134 G,by kernel_rfl⟩
 ·cases h;exact ⟨Tryd.f89,Tryd.func89,chk135 G,by kernel_rfl⟩
 ·cases h;exact ⟨Tryd.f90,Tryd.func90,chk136 G,by kernel_rfl⟩
 ·cases h;exact ⟨Tryd.f91,Tryd.func91,chk137 G,by kernel_rfl⟩
 ·cases h;exact ⟨Tryd.f92,Tryd.func92,chk104 G,by kernel_rfl⟩
 ·cases h;exact ⟨Tryd.f93,Tryd.func93,chk138 G,by kernel_rfl⟩
 ·cases h

end Go.Proofs.YtfcgnpphabplbaaDoor

