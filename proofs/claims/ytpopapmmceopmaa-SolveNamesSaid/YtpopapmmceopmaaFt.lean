/- The functions of the program, looked up by number. -/
import Derived.Test.YtpopapmmceopmaaProg
import Derived.Test.YtpopapmmceopmaaRX
namespace Go.Proofs.Ytpopapmmceopmaa.X
open Go
noncomputable def fn0 : FT := fun f => sel (Nat.beq f 2) (fun _ => some Go.Proofs.Try.f2) (fun _ => none)
noncomputable def fn1 : FT := fun f => sel (Nat.beq f 3) (fun _ => some Go.Proofs.Try.f3) (fun _ => none)
noncomputable def fn2 : FT := fun f => sel (Nat.ble f 2) (fun _ => fn0 f) (fun _ => fn1 f)
noncomputable def fn3 : FT := fun f => sel (Nat.beq f 4) (fun _ => some Go.Proofs.Try.f4) (fun _ => none)
noncomputable def fn4 : FT := fun f => sel (Nat.beq f 5) (fun _ => some Go.Proofs.Try.f5) (fun _ => none)
noncomputable def fn5 : FT := fun f => sel (Nat.beq f 6) (fun _ => some Go.Proofs.Try.f6) (fun _ => none)
noncomputable def fn6 : FT := fun f => sel (Nat.ble f 5) (fun _ => fn4 f) (fun _ => fn5 f)
noncomputable def fn7 : FT := fun f => sel (Nat.ble f 4) (fun _ => fn3 f) (fun _ => fn6 f)
noncomputable def fn8 : FT := fun f => sel (Nat.ble f 3) (fun _ => fn2 f) (fun _ => fn7 f)
noncomputable def fn9 : FT := fun f => sel (Nat.beq f 7) (fun _ => some Go.Proofs.Try.f7) (fun _ => none)
noncomputable def fn10 : FT := fun f => sel (Nat.beq f 8) (fun _ => some Go.Proofs.Try.f8) (fun _ => none)
noncomputable def fn11 : FT := fun f => sel (Nat.ble f 7) (fun _ => fn9 f) (fun _ => fn10 f)
noncomputable def fn12 : FT := fun f => sel (Nat.beq f 9) (fun _ => some Go.Proofs.Try.f9) (fun _ => none)
noncomputable def fn13 : FT := fun f => sel (Nat.beq f 10) (fun _ => some Go.Proofs.Try.f10) (fun _ => none)
noncomputable def fn14 : FT := fun f => sel (Nat.beq f 11) (fun _ => some Go.Proofs.Try.f11) (fun _ => none)
noncomputable def fn15 : FT := fun f => sel (Nat.ble f 10) (fun _ => fn13 f) (fun _ => fn14 f)
noncomputable def fn16 : FT := fun f => sel (Nat.ble f 9) (fun _ => fn12 f) (fun _ => fn15 f)
noncomputable def fn17 : FT := fun f => sel (Nat.ble f 8) (fun _ => fn11 f) (fun _ => fn16 f)
noncomputable def fn18 : FT := fun f => sel (Nat.ble f 6) (fun _ => fn8 f) (fun _ => fn17 f)
noncomputable def fn19 : FT := fun f => sel (Nat.beq f 12) (fun _ => some Go.Proofs.Try.f12) (fun _ => none)
noncomputable def fn20 : FT := fun f => sel (Nat.beq f 13) (fun _ => some Go.Proofs.Try.f13) (fun _ => none)
noncomputable def fn21 : FT := fun f => sel (Nat.ble f 12) (fun _ => fn19 f) (fun _ => fn20 f)
noncomputable def fn22 : FT := fun f => sel (Nat.beq f 14) (fun _ => some Go.Proofs.Try.f14) (fun _ => none)
noncomputable def fn23 : FT := fun f => sel (Nat.beq f 15) (fun _ => some Go.Proofs.Try.f15) (fun _ => none)
noncomputable def fn24 : FT := fun f => sel (Nat.beq f 16) (fun _ => some Go.Proofs.Try.f16) (fun _ => none)
noncomputable def fn25 : FT := fun f => sel (Nat.ble f 15) (fun _ => fn23 f) (fun _ => fn24 f)
noncomputable def fn26 : FT := fun f => sel (Nat.ble f 14) (fun _ => fn22 f) (fun _ => fn25 f)
noncomputable def fn27 : FT := fun f => sel (Nat.ble f 13) (fun _ => fn21 f) (fun _ => fn26 f)
noncomputable def fn28 : FT := fun f => sel (Nat.beq f 17) (fun _ => some Go.Proofs.Try.f17) (fun _ => none)
noncomputable def fn29 : FT := fun f => sel (Nat.beq f 18) (fun _ => some Go.Proofs.Try.f18) (fun _ => none)
noncomputable def fn30 : FT := fun f => sel (Nat.ble f 17) (fun _ => fn28 f) (fun _ => fn29 f)
noncomputable def fn31 : FT := fun f => sel (Nat.beq f 19) (fun _ => some Go.Proofs.Try.f19) (fun _ => none)
noncomputable def fn32 : FT := fun f => sel (Nat.beq f 20) (fun _ => some Go.Proofs.Try.f20) (fun _ => none)
noncomputable def fn33 : FT := fun f => sel (Nat.beq f 21) (fun _ => some Go.Proofs.Try.f21) (fun _ => none)
noncomputable def fn34 : FT := fun f => sel (Nat.ble f 20) (fun _ => fn32 f) (fun _ => fn33 f)
noncomputable def fn35 : FT := fun f => sel (Nat.ble f 19) (fun _ => fn31 f) (fun _ => fn34 f)
noncomputable def fn36 : FT := fun f => sel (Nat.ble f 18) (fun _ => fn30 f) (fun _ => fn35 f)
noncomputable def fn37 : FT := fun f => sel (Nat.ble f 16) (fun _ => fn27 f) (fun _ => fn36 f)
noncomputable def fn38 : FT := fun f => sel (Nat.ble f 11) (fun _ => fn18 f) (fun _ => fn37 f)
noncomputable def fn39 : FT := fun f => sel (Nat.beq f 22) (fun _ => some Go.Proofs.Try.f22) (fun _ => none)
noncomputable def fn40 : FT := fun f => sel (Nat.beq f 23) (fun _ => some Go.Proofs.Try.f23) (fun _ => none)
noncomputable def fn41 : FT := fun f => sel (Nat.ble f 22) (fun _ => fn39 f) (fun _ => fn40 f)
noncomputable def fn42 : FT := fun f => sel (Nat.beq f 24) (fun _ => some Go.Proofs.Try.f24) (fun _ => none)
noncomputable def fn43 : FT := fun f => sel (Nat.beq f 25) (fun _ => some Go.Proofs.Try.f25) (fun _ => none)
noncomputable def fn44 : FT := fun f => sel (Nat.beq f 26) (fun _ => some Go.Proofs.Try.f26) (fun _ => none)
noncomputable def fn45 : FT := fun f => sel (Nat.ble f 25) (fun _ => fn43 f) (fun _ => fn44 f)
noncomputable def fn46 : FT := fun f => sel (Nat.ble f 24) (fun _ => fn42 f) (fun _ => fn45 f)
noncomputable def fn47 : FT := fun f => sel (Nat.ble f 23) (fun _ => fn41 f) (fun _ => fn46 f)
noncomputable def fn48 : FT := fun f => sel (Nat.beq f 27) (fun _ => some Go.Proofs.Try.f27) (fun _ => none)
noncomputable def fn49 : FT := fun f => sel (Nat.beq f 28) (fun _ => some Go.Proofs.Try.f28) (fun _ => none)
noncomputable def fn50 : FT := fun f => sel (Nat.ble f 27) (fun _ => fn48 f) (fun _ => fn49 f)
noncomputable def fn51 : FT := fun f => sel (Nat.beq f 29) (fun _ => some Go.Proofs.Try.f29) (fun _ => none)
noncomputable def fn52 : FT := fun f => sel (Nat.beq f 30) (fun _ => some Go.Proofs.Try.f30) (fun _ => none)
noncomputable def fn53 : FT := fun f => sel (Nat.beq f 31) (fun _ => some Go.Proofs.Try.f31) (fun _ => none)
noncomputable def fn54 : FT := fun f => sel (Nat.ble f 30) (fun _ => fn52 f) (fun _ => fn53 f)
noncomputable def fn55 : FT := fun f => sel (Nat.ble f 29) (fun _ => fn51 f) (fun _ => fn54 f)
noncomputable def fn56 : FT := fun f => sel (Nat.ble f 28) (fun _ => fn50 f) (fun _ => fn55 f)
noncomputable def fn57 : FT := fun f => sel (Nat.ble f 26) (fun _ => fn47 f) (fun _ => fn56 f)
noncomputable def fn58 : FT := fun f => sel (Nat.beq f 32) (fun _ => some Go.Proofs.Try.f32) (fun _ => none)
noncomputable def fn59 : FT := fun f => sel (Nat.beq f 33) (fun _ => some Go.Proofs.Try.f33) (fun _ => none)
noncomputable def fn60 : FT := fun f => sel (Nat.ble f 32) (fun _ => fn58 f) (fun _ => fn59 f)
noncomputable def fn61 : FT := fun f => sel (Nat.beq f 34) (fun _ => some Go.Proofs.Try.f34) (fun _ => none)
noncomputable def fn62 : FT := fun f => sel (Nat.beq f 35) (fun _ => some Go.Proofs.Try.f35) (fun _ => none)
noncomputable def fn63 : FT := fun f => sel (Nat.beq f 36) (fun _ => some Go.Proofs.Try.f36) (fun _ => none)
noncomputable def fn64 : FT := fun f => sel (Nat.ble f 35) (fun _ => fn62 f) (fun _ => fn63 f)
noncomputable def fn65 : FT := fun f => sel (Nat.ble f 34) (fun _ => fn61 f) (fun _ => fn64 f)
noncomputable def fn66 : FT := fun f => sel (Nat.ble f 33) (fun _ => fn60 f) (fun _ => fn65 f)
noncomputable def fn67 : FT := fun f => sel (Nat.beq f 37) (fun _ => some Go.Proofs.Try.f37) (fun _ => none)
noncomputable def fn68 : FT := fun f => sel (Nat.beq f 38) (fun _ => some Go.Proofs.Try.f38) (fun _ => none)
noncomputable def fn69 : FT := fun f => sel (Nat.beq f 39) (fun _ => some Go.Proofs.Try.f39) (fun _ => none)
noncomputable def fn70 : FT := fun f => sel (Nat.ble f 38) (fun _ => fn68 f) (fun _ => fn69 f)
noncomputable def fn71 : FT := fun f => sel (Nat.ble f 37) (fun _ => fn67 f) (fun _ => fn70 f)
noncomputable def fn72 : FT := fun f => sel (Nat.beq f 40) (fun _ => some Go.Proofs.Try.f40) (fun _ => none)
noncomputable def fn73 : FT := fun f => sel (Nat.beq f 41) (fun _ => some Go.Proofs.Try.f41) (fun _ => none)
noncomputable def fn74 : FT := fun f => sel (Nat.beq f 42) (fun _ => some Go.Proofs.Try.f42) (fun _ => none)
noncomputable def fn75 : FT := fun f => sel (Nat.ble f 41) (fun _ => fn73 f) (fun _ => fn74 f)
noncomputable def fn76 : FT := fun f => sel (Nat.ble f 40) (fun _ => fn72 f) (fun _ => fn75 f)
noncomputable def fn77 : FT := fun f => sel (Nat.ble f 39) (fun _ => fn71 f) (fun _ => fn76 f)
noncomputable def fn78 : FT := fun f => sel (Nat.ble f 36) (fun _ => fn66 f) (fun _ => fn77 f)
noncomputable def fn79 : FT := fun f => sel (Nat.ble f 31) (fun _ => fn57 f) (fun _ => fn78 f)
noncomputable def fn80 : FT := fun f => sel (Nat.ble f 21) (fun _ => fn38 f) (fun _ => fn79 f)
noncomputable def fn81 : FT := fun f => sel (Nat.beq f 43) (fun _ => some Go.Proofs.Try.f43) (fun _ => none)
noncomputable def fn82 : FT := fun f => sel (Nat.beq f 45) (fun _ => some Go.Proofs.Try.f45) (fun _ => none)
noncomputable def fn83 : FT := fun f => sel (Nat.ble f 43) (fun _ => fn81 f) (fun _ => fn82 f)
noncomputable def fn84 : FT := fun f => sel (Nat.beq f 46) (fun _ => some Go.Proofs.Try.f46) (fun _ => none)
noncomputable def fn85 : FT := fun f => sel (Nat.beq f 47) (fun _ => some Go.Proofs.Try.f47) (fun _ => none)
noncomputable def fn86 : FT := fun f => sel (Nat.beq f 48) (fun _ => some Go.Proofs.Try.f48) (fun _ => none)
noncomputable def fn87 : FT := fun f => sel (Nat.ble f 47) (fun _ => fn85 f) (fun _ => fn86 f)
noncomputable def fn88 : FT := fun f => sel (Nat.ble f 46) (fun _ => fn84 f) (fun _ => fn87 f)
noncomputable def fn89 : FT := fun f => sel (Nat.ble f 45) (fun _ => fn83 f) (fun _ => fn88 f)
noncomputable def fn90 : FT := fun f => sel (Nat.beq f 49) (fun _ => some Go.Proofs.Try.f49) (fun _ => none)
noncomputable def fn91 : FT := fun f => sel (Nat.beq f 50) (fun _ => some Go.Proofs.Try.f50) (fun _ => none)
noncomputable def fn92 : FT := fun f => sel (Nat.ble f 49) (fun _ => fn90 f) (fun _ => fn91 f)
noncomputable def fn93 : FT := fun f => sel (Nat.beq f 51) (fun _ => some Go.Proofs.Try.f51) (fun _ => none)
noncomputable def fn94 : FT := fun f => sel (Nat.beq f 52) (fun _ => some Go.Proofs.Try.f52) (fun _ => none)
noncomputable def fn95 : FT := fun f => sel (Nat.beq f 53) (fun _ => some Go.Proofs.Try.f53) (fun _ => none)
noncomputable def fn96 : FT := fun f => sel (Nat.ble f 52) (fun _ => fn94 f) (fun _ => fn95 f)
noncomputable def fn97 : FT := fun f => sel (Nat.ble f 51) (fun _ => fn93 f) (fun _ => fn96 f)
noncomputable def fn98 : FT := fun f => sel (Nat.ble f 50) (fun _ => fn92 f) (fun _ => fn97 f)
noncomputable def fn99 : FT := fun f => sel (Nat.ble f 48) (fun _ => fn89 f) (fun _ => fn98 f)
noncomputable def fn100 : FT := fun f => sel (Nat.beq f 54) (fun _ => some Go.Proofs.Try.f54) (fun _ => none)
noncomputable def fn101 : FT := fun f => sel (Nat.beq f 55) (fun _ => some Go.Proofs.Try.f55) (fun _ => none)
noncomputable def fn102 : FT := fun f => sel (Nat.ble f 54) (fun _ => fn100 f) (fun _ => fn101 f)
noncomputable def fn103 : FT := fun f => sel (Nat.beq f 56) (fun _ => some Go.Proofs.Try.f56) (fun _ => none)
noncomputable def fn104 : FT := fun f => sel (Nat.beq f 57) (fun _ => some Go.Proofs.Try.f57) (fun _ => none)
noncomputable def fn105 : FT := fun f => sel (Nat.beq f 58) (fun _ => some Go.Proofs.Try.f58) (fun _ => none)
noncomputable def fn106 : FT := fun f => sel (Nat.ble f 57) (fun _ => fn104 f) (fun _ => fn105 f)
noncomputable def fn107 : FT := fun f => sel (Nat.ble f 56) (fun _ => fn103 f) (fun _ => fn106 f)
noncomputable def fn108 : FT := fun f => sel (Nat.ble f 55) (fun _ => fn102 f) (fun _ => fn107 f)
noncomputable def fn109 : FT := fun f => sel (Nat.beq f 59) (fun _ => some Go.Proofs.Try.f59) (fun _ => none)
noncomputable def fn110 : FT := fun f => sel (Nat.beq f 60) (fun _ => some Go.Proofs.Try.f60) (fun _ => none)
noncomputable def fn111 : FT := fun f => sel (Nat.beq f 61) (fun _ => some Go.Proofs.Try.f61) (fun _ => none)
noncomputable def fn112 : FT := fun f => sel (Nat.ble f 60) (fun _ => fn110 f) (fun _ => fn111 f)
noncomputable def fn113 : FT := fun f => sel (Nat.ble f 59) (fun _ => fn109 f) (fun _ => fn112 f)
noncomputable def fn114 : FT := fun f => sel (Nat.beq f 62) (fun _ => some Go.Proofs.Try.f62) (fun _ => none)
noncomputable def fn115 : FT := fun f => sel (Nat.beq f 63) (fun _ => some Go.Proofs.Try.f63) (fun _ => none)
noncomputable def fn116 : FT := fun f => sel (Nat.beq f 64) (fun _ => some Go.Proofs.Try.f64) (fun _ => none)
noncomputable def fn117 : FT := fun f => sel (Nat.ble f 63) (fun _ => fn115 f) (fun _ => fn116 f)
noncomputable def fn118 : FT := fun f => sel (Nat.ble f 62) (fun _ => fn114 f) (fun _ => fn117 f)
noncomputable def fn119 : FT := fun f => sel (Nat.ble f 61) (fun _ => fn113 f) (fun _ => fn118 f)
noncomputable def fn120 : FT := fun f => sel (Nat.ble f 58) (fun _ => fn108 f) (fun _ => fn119 f)
noncomputable def fn121 : FT := fun f => sel (Nat.ble f 53) (fun _ => fn99 f) (fun _ => fn120 f)
noncomputable def fn122 : FT := fun f => sel (Nat.beq f 65) (fun _ => some Go.Proofs.Try.f65) (fun _ => none)
noncomputable def fn123 : FT := fun f => sel (Nat.beq f 66) (fun _ => some Go.Proofs.Try.f66) (fun _ => none)
noncomputable def fn124 : FT := fun f => sel (Nat.ble f 65) (fun _ => fn122 f) (fun _ => fn123 f)
noncomputable def fn125 : FT := fun f => sel (Nat.beq f 67) (fun _ => some Go.Proofs.Try.f67) (fun _ => none)
noncomputable def fn126 : FT := fun f => sel (Nat.beq f 68) (fun _ => some Go.Proofs.Try.f68) (fun _ => none)
noncomputable def fn127 : FT := fun f => sel (Nat.beq f 69) (fun _ => some Go.Proofs.Try.f69) (fun _ => none)
noncomputable def fn128 : FT := fun f => sel (Nat.ble f 68) (fun _ => fn126 f) (fun _ => fn127 f)
noncomputable def fn129 : FT := fun f => sel (Nat.ble f 67) (fun _ => fn125 f) (fun _ => fn128 f)
noncomputable def fn130 : FT := fun f => sel (Nat.ble f 66) (fun _ => fn124 f) (fun _ => fn129 f)
noncomputable def fn131 : FT := fun f => sel (Nat.beq f 70) (fun _ => some Go.Proofs.Try.f70) (fun _ => none)
noncomputable def fn132 : FT := fun f => sel (Nat.beq f 71) (fun _ => some Go.Proofs.Try.f71) (fun _ => none)
noncomputable def fn133 : FT := fun f => sel (Nat.ble f 70) (fun _ => fn131 f) (fun _ => fn132 f)
noncomputable def fn134 : FT := fun f => sel (Nat.beq f 72) (fun _ => some Go.Proofs.Try.f72) (fun _ => none)
noncomputable def fn135 : FT := fun f => sel (Nat.beq f 73) (fun _ => some Go.Proofs.Try.f73) (fun _ => none)
noncomputable def fn136 : FT := fun f => sel (Nat.beq f 74) (fun _ => some Go.Proofs.Try.f74) (fun _ => none)
noncomputable def fn137 : FT := fun f => sel (Nat.ble f 73) (fun _ => fn135 f) (fun _ => fn136 f)
noncomputable def fn138 : FT := fun f => sel (Nat.ble f 72) (fun _ => fn134 f) (fun _ => fn137 f)
noncomputable def fn139 : FT := fun f => sel (Nat.ble f 71) (fun _ => fn133 f) (fun _ => fn138 f)
noncomputable def fn140 : FT := fun f => sel (Nat.ble f 69) (fun _ => fn130 f) (fun _ => fn139 f)
noncomputable def fn141 : FT := fun f => sel (Nat.beq f 75) (fun _ => some Go.Proofs.Try.f75) (fun _ => none)
noncomputable def fn142 : FT := fun f => sel (Nat.beq f 76) (fun _ => some Go.Proofs.Try.f76) (fun _ => none)
noncomputable def fn143 : FT := fun f => sel (Nat.ble f 75) (fun _ => fn141 f) (fun _ => fn142 f)
noncomputable def fn144 : FT := fun f => sel (Nat.beq f 77) (fun _ => some Go.Proofs.Try.f77) (fun _ => none)
noncomputable def fn145 : FT := fun f => sel (Nat.beq f 78) (fun _ => some Go.Proofs.Try.f78) (fun _ => none)
noncomputable def fn146 : FT := fun f => sel (Nat.beq f 79) (fun _ => some Go.Proofs.Try.f79) (fun _ => none)
noncomputable def fn147 : FT := fun f => sel (Nat.ble f 78) (fun _ => fn145 f) (fun _ => fn146 f)
noncomputable def fn148 : FT := fun f => sel (Nat.ble f 77) (fun _ => fn144 f) (fun _ => fn147 f)
noncomputable def fn149 : FT := fun f => sel (Nat.ble f 76) (fun _ => fn143 f) (fun _ => fn148 f)
noncomputable def fn150 : FT := fun f => sel (Nat.beq f 80) (fun _ => some Go.Proofs.Try.f80) (fun _ => none)
noncomputable def fn151 : FT := fun f => sel (Nat.beq f 81) (fun _ => some Go.Proofs.Try.f81) (fun _ => none)
noncomputable def fn152 : FT := fun f => sel (Nat.beq f 82) (fun _ => some Go.Proofs.Try.f82) (fun _ => none)
noncomputable def fn153 : FT := fun f => sel (Nat.ble f 81) (fun _ => fn151 f) (fun _ => fn152 f)
noncomputable def fn154 : FT := fun f => sel (Nat.ble f 80) (fun _ => fn150 f) (fun _ => fn153 f)
noncomputable def fn155 : FT := fun f => sel (Nat.beq f 83) (fun _ => some Go.Proofs.Try.f83) (fun _ => none)
noncomputable def fn156 : FT := fun f => sel (Nat.beq f 84) (fun _ => some Go.Proofs.Try.f84) (fun _ => none)
noncomputable def fn157 : FT := fun f => sel (Nat.beq f 85) (fun _ => some Go.Proofs.Try.f85) (fun _ => none)
noncomputable def fn158 : FT := fun f => sel (Nat.ble f 84) (fun _ => fn156 f) (fun _ => fn157 f)
noncomputable def fn159 : FT := fun f => sel (Nat.ble f 83) (fun _ => fn155 f) (fun _ => fn158 f)
noncomputable def fn160 : FT := fun f => sel (Nat.ble f 82) (fun _ => fn154 f) (fun _ => fn159 f)
noncomputable def fn161 : FT := fun f => sel (Nat.ble f 79) (fun _ => fn149 f) (fun _ => fn160 f)
noncomputable def fn162 : FT := fun f => sel (Nat.ble f 74) (fun _ => fn140 f) (fun _ => fn161 f)
noncomputable def fn163 : FT := fun f => sel (Nat.ble f 64) (fun _ => fn121 f) (fun _ => fn162 f)
noncomputable def fn164 : FT := fun f => sel (Nat.ble f 42) (fun _ => fn80 f) (fun _ => fn163 f)
noncomputable def fn165 : FT := fun f => sel (Nat.beq f 86) (fun _ => some Go.Proofs.Try.f86) (fun _ => none)
noncomputable def fn166 : FT := fun f => sel (Nat.beq f 87) (fun _ => some Go.Proofs.Try.f87) (fun _ => none)
noncomputable def fn167 : FT := fun f => sel (Nat.ble f 86) (fun _ => fn165 f) (fun _ => fn166 f)
noncomputable def fn168 : FT := fun f => sel (Nat.beq f 88) (fun _ => some Go.Proofs.Try.f88) (fun _ => none)
noncomputable def fn169 : FT := fun f => sel (Nat.beq f 89) (fun _ => some Go.Proofs.Try.f89) (fun _ => none)
noncomputable def fn170 : FT := fun f => sel (Nat.beq f 90) (fun _ => some Go.Proofs.Try.f90) (fun _ => none)
noncomputable def fn171 : FT := fun f => sel (Nat.ble f 89) (fun _ => fn169 f) (fun _ => fn170 f)
noncomputable def fn172 : FT := fun f => sel (Nat.ble f 88) (fun _ => fn168 f) (fun _ => fn171 f)
noncomputable def fn173 : FT := fun f => sel (Nat.ble f 87) (fun _ => fn167 f) (fun _ => fn172 f)
noncomputable def fn174 : FT := fun f => sel (Nat.beq f 91) (fun _ => some Go.Proofs.Try.f91) (fun _ => none)
noncomputable def fn175 : FT := fun f => sel (Nat.beq f 92) (fun _ => some Go.Proofs.Try.f92) (fun _ => none)
noncomputable def fn176 : FT := fun f => sel (Nat.ble f 91) (fun _ => fn174 f) (fun _ => fn175 f)
noncomputable def fn177 : FT := fun f => sel (Nat.beq f 93) (fun _ => some Go.Proofs.Try.f93) (fun _ => none)
noncomputable def fn178 : FT := fun f => sel (Nat.beq f 94) (fun _ => some Go.Proofs.Try.f94) (fun _ => none)
noncomputable def fn179 : FT := fun f => sel (Nat.beq f 95) (fun _ => some Go.Proofs.Try.f95) (fun _ => none)
noncomputable def fn180 : FT := fun f => sel (Nat.ble f 94) (fun _ => fn178 f) (fun _ => fn179 f)
noncomputable def fn181 : FT := fun f => sel (Nat.ble f 93) (fun _ => fn177 f) (fun _ => fn180 f)
noncomputable def fn182 : FT := fun f => sel (Nat.ble f 92) (fun _ => fn176 f) (fun _ => fn181 f)
noncomputable def fn183 : FT := fun f => sel (Nat.ble f 90) (fun _ => fn173 f) (fun _ => fn182 f)
noncomputable def fn184 : FT := fun f => sel (Nat.beq f 96) (fun _ => some Go.Proofs.Try.f96) (fun _ => none)
noncomputable def fn185 : FT := fun f => sel (Nat.beq f 97) (fun _ => some Go.Proofs.Try.f97) (fun _ => none)
noncomputable def fn186 : FT := fun f => sel (Nat.ble f 96) (fun _ => fn184 f) (fun _ => fn185 f)
noncomputable def fn187 : FT := fun f => sel (Nat.beq f 98) (fun _ => some Go.Proofs.Try.f98) (fun _ => none)
noncomputable def fn188 : FT := fun f => sel (Nat.beq f 99) (fun _ => some Go.Proofs.Try.f99) (fun _ => none)
noncomputable def fn189 : FT := fun f => sel (Nat.beq f 100) (fun _ => some Go.Proofs.Try.f100) (fun _ => none)
noncomputable def fn190 : FT := fun f => sel (Nat.ble f 99) (fun _ => fn188 f) (fun _ => fn189 f)
noncomputable def fn191 : FT := fun f => sel (Nat.ble f 98) (fun _ => fn187 f) (fun _ => fn190 f)
noncomputable def fn192 : FT := fun f => sel (Nat.ble f 97) (fun _ => fn186 f) (fun _ => fn191 f)
noncomputable def fn193 : FT := fun f => sel (Nat.beq f 101) (fun _ => some Go.Proofs.Try.f101) (fun _ => none)
noncomputable def fn194 : FT := fun f => sel (Nat.beq f 102) (fun _ => some Go.Proofs.Try.f102) (fun _ => none)
noncomputable def fn195 : FT := fun f => sel (Nat.ble f 101) (fun _ => fn193 f) (fun _ => fn194 f)
noncomputable def fn196 : FT := fun f => sel (Nat.beq f 103) (fun _ => some Go.Proofs.Try.f103) (fun _ => none)
noncomputable def fn197 : FT := fun f => sel (Nat.beq f 104) (fun _ => some Go.Proofs.Try.f104) (fun _ => none)
noncomputable def fn198 : FT := fun f => sel (Nat.beq f 105) (fun _ => some Go.Proofs.Try.f105) (fun _ => none)
noncomputable def fn199 : FT := fun f => sel (Nat.ble f 104) (fun _ => fn197 f) (fun _ => fn198 f)
noncomputable def fn200 : FT := fun f => sel (Nat.ble f 103) (fun _ => fn196 f) (fun _ => fn199 f)
noncomputable def fn201 : FT := fun f => sel (Nat.ble f 102) (fun _ => fn195 f) (fun _ => fn200 f)
noncomputable def fn202 : FT := fun f => sel (Nat.ble f 100) (fun _ => fn192 f) (fun _ => fn201 f)
noncomputable def fn203 : FT := fun f => sel (Nat.ble f 95) (fun _ => fn183 f) (fun _ => fn202 f)
noncomputable def fn204 : FT := fun f => sel (Nat.beq f 106) (fun _ => some Go.Proofs.Try.f106) (fun _ => none)
noncomputable def fn205 : FT := fun f => sel (Nat.beq f 107) (fun _ => some Go.Proofs.Try.f107) (fun _ => none)
noncomputable def fn206 : FT := fun f => sel (Nat.ble f 106) (fun _ => fn204 f) (fun _ => fn205 f)
noncomputable def fn207 : FT := fun f => sel (Nat.beq f 108) (fun _ => some Go.Proofs.Try.f108) (fun _ => none)
noncomputable def fn208 : FT := fun f => sel (Nat.beq f 109) (fun _ => some Go.Proofs.Try.f109) (fun _ => none)
noncomputable def fn209 : FT := fun f => sel (Nat.beq f 110) (fun _ => some Go.Proofs.Try.f110) (fun _ => none)
noncomputable def fn210 : FT := fun f => sel (Nat.ble f 109) (fun _ => fn208 f) (fun _ => fn209 f)
noncomputable def fn211 : FT := fun f => sel (Nat.ble f 108) (fun _ => fn207 f) (fun _ => fn210 f)
noncomputable def fn212 : FT := fun f => sel (Nat.ble f 107) (fun _ => fn206 f) (fun _ => fn211 f)
noncomputable def fn213 : FT := fun f => sel (Nat.beq f 111) (fun _ => some Go.Proofs.Try.f111) (fun _ => none)
noncomputable def fn214 : FT := fun f => sel (Nat.beq f 112) (fun _ => some Go.Proofs.Try.f112) (fun _ => none)
noncomputable def fn215 : FT := fun f => sel (Nat.ble f 111) (fun _ => fn213 f) (fun _ => fn214 f)
noncomputable def fn216 : FT := fun f => sel (Nat.beq f 113) (fun _ => some Go.Proofs.Try.f113) (fun _ => none)
noncomputable def fn217 : FT := fun f => sel (Nat.beq f 114) (fun _ => some Go.Proofs.Try.f114) (fun _ => none)
noncomputable def fn218 : FT := fun f => sel (Nat.beq f 115) (fun _ => some Go.Proofs.Try.f115) (fun _ => none)
noncomputable def fn219 : FT := fun f => sel (Nat.ble f 114) (fun _ => fn217 f) (fun _ => fn218 f)
noncomputable def fn220 : FT := fun f => sel (Nat.ble f 113) (fun _ => fn216 f) (fun _ => fn219 f)
noncomputable def fn221 : FT := fun f => sel (Nat.ble f 112) (fun _ => fn215 f) (fun _ => fn220 f)
noncomputable def fn222 : FT := fun f => sel (Nat.ble f 110) (fun _ => fn212 f) (fun _ => fn221 f)
noncomputable def fn223 : FT := fun f => sel (Nat.beq f 116) (fun _ => some Go.Proofs.Try.f116) (fun _ => none)
noncomputable def fn224 : FT := fun f => sel (Nat.beq f 117) (fun _ => some Go.Proofs.Try.f117) (fun _ => none)
noncomputable def fn225 : FT := fun f => sel (Nat.ble f 116) (fun _ => fn223 f) (fun _ => fn224 f)
noncomputable def fn226 : FT := fun f => sel (Nat.beq f 118) (fun _ => some Go.Proofs.Try.f118) (fun _ => none)
noncomputable def fn227 : FT := fun f => sel (Nat.beq f 119) (fun _ => some Go.Proofs.Try.f119) (fun _ => none)
noncomputable def fn228 : FT := fun f => sel (Nat.beq f 120) (fun _ => some Go.Proofs.Try.f120) (fun _ => none)
noncomputable def fn229 : FT := fun f => sel (Nat.ble f 119) (fun _ => fn227 f) (fun _ => fn228 f)
noncomputable def fn230 : FT := fun f => sel (Nat.ble f 118) (fun _ => fn226 f) (fun _ => fn229 f)
noncomputable def fn231 : FT := fun f => sel (Nat.ble f 117) (fun _ => fn225 f) (fun _ => fn230 f)
noncomputable def fn232 : FT := fun f => sel (Nat.beq f 121) (fun _ => some Go.Proofs.Try.f121) (fun _ => none)
noncomputable def fn233 : FT := fun f => sel (Nat.beq f 122) (fun _ => some Go.Proofs.Try.f122) (fun _ => none)
noncomputable def fn234 : FT := fun f => sel (Nat.beq f 123) (fun _ => some Go.Proofs.Try.f123) (fun _ => none)
noncomputable def fn235 : FT := fun f => sel (Nat.ble f 122) (fun _ => fn233 f) (fun _ => fn234 f)
noncomputable def fn236 : FT := fun f => sel (Nat.ble f 121) (fun _ => fn232 f) (fun _ => fn235 f)
noncomputable def fn237 : FT := fun f => sel (Nat.beq f 124) (fun _ => some Go.Proofs.Try.f124) (fun _ => none)
noncomputable def fn238 : FT := fun f => sel (Nat.beq f 125) (fun _ => some Go.Proofs.Try.f125) (fun _ => none)
noncomputable def fn239 : FT := fun f => sel (Nat.beq f 126) (fun _ => some Go.Proofs.Try.f126) (fun _ => none)
noncomputable def fn240 : FT := fun f => sel (Nat.ble f 125) (fun _ => fn238 f) (fun _ => fn239 f)
noncomputable def fn241 : FT := fun f => sel (Nat.ble f 124) (fun _ => fn237 f) (fun _ => fn240 f)
noncomputable def fn242 : FT := fun f => sel (Nat.ble f 123) (fun _ => fn236 f) (fun _ => fn241 f)
noncomputable def fn243 : FT := fun f => sel (Nat.ble f 120) (fun _ => fn231 f) (fun _ => fn242 f)
noncomputable def fn244 : FT := fun f => sel (Nat.ble f 115) (fun _ => fn222 f) (fun _ => fn243 f)
noncomputable def fn245 : FT := fun f => sel (Nat.ble f 105) (fun _ => fn203 f) (fun _ => fn244 f)
noncomputable def fn246 : FT := fun f => sel (Nat.beq f 127) (fun _ => some Go.Proofs.Try.f127) (fun _ => none)
noncomputable def fn247 : FT := fun f => sel (Nat.beq f 128) (fun _ => some Go.Proofs.Try.f128) (fun _ => none)
noncomputable def fn248 : FT := fun f => sel (Nat.ble f 127) (fun _ => fn246 f) (fun _ => fn247 f)
noncomputable def fn249 : FT := fun f => sel (Nat.beq f 129) (fun _ => some Go.Proofs.Try.f129) (fun _ => none)
noncomputable def fn250 : FT := fun f => sel (Nat.beq f 131) (fun _ => some Go.Proofs.Try.f131) (fun _ => none)
noncomputable def fn251 : FT := fun f => sel (Nat.beq f 132) (fun _ => some Go.Proofs.Try.f132) (fun _ => none)
noncomputable def fn252 : FT := fun f => sel (Nat.ble f 131) (fun _ => fn250 f) (fun _ => fn251 f)
noncomputable def fn253 : FT := fun f => sel (Nat.ble f 129) (fun _ => fn249 f) (fun _ => fn252 f)
noncomputable def fn254 : FT := fun f => sel (Nat.ble f 128) (fun _ => fn248 f) (fun _ => fn253 f)
noncomputable def fn255 : FT := fun f => sel (Nat.beq f 133) (fun _ => some Go.Proofs.Try.f133) (fun _ => none)
noncomputable def fn256 : FT := fun f => sel (Nat.beq f 134) (fun _ => some Go.Proofs.Try.f134) (fun _ => none)
noncomputable def fn257 : FT := fun f => sel (Nat.ble f 133) (fun _ => fn255 f) (fun _ => fn256 f)
noncomputable def fn258 : FT := fun f => sel (Nat.beq f 135) (fun _ => some Go.Proofs.Try.f135) (fun _ => none)
noncomputable def fn259 : FT := fun f => sel (Nat.beq f 136) (fun _ => some Go.Proofs.Try.f136) (fun _ => none)
noncomputable def fn260 : FT := fun f => sel (Nat.beq f 137) (fun _ => some Go.Proofs.Try.f137) (fun _ => none)
noncomputable def fn261 : FT := fun f => sel (Nat.ble f 136) (fun _ => fn259 f) (fun _ => fn260 f)
noncomputable def fn262 : FT := fun f => sel (Nat.ble f 135) (fun _ => fn258 f) (fun _ => fn261 f)
noncomputable def fn263 : FT := fun f => sel (Nat.ble f 134) (fun _ => fn257 f) (fun _ => fn262 f)
noncomputable def fn264 : FT := fun f => sel (Nat.ble f 132) (fun _ => fn254 f) (fun _ => fn263 f)
noncomputable def fn265 : FT := fun f => sel (Nat.beq f 138) (fun _ => some Go.Proofs.Try.f138) (fun _ => none)
noncomputable def fn266 : FT := fun f => sel (Nat.beq f 139) (fun _ => some Go.Proofs.Try.f139) (fun _ => none)
noncomputable def fn267 : FT := fun f => sel (Nat.ble f 138) (fun _ => fn265 f) (fun _ => fn266 f)
noncomputable def fn268 : FT := fun f => sel (Nat.beq f 140) (fun _ => some Go.Proofs.Try.f140) (fun _ => none)
noncomputable def fn269 : FT := fun f => sel (Nat.beq f 141) (fun _ => some Go.Proofs.Try.f141) (fun _ => none)
noncomputable def fn270 : FT := fun f => sel (Nat.beq f 142) (fun _ => some Go.Proofs.Try.f142) (fun _ => none)
noncomputable def fn271 : FT := fun f => sel (Nat.ble f 141) (fun _ => fn269 f) (fun _ => fn270 f)
noncomputable def fn272 : FT := fun f => sel (Nat.ble f 140) (fun _ => fn268 f) (fun _ => fn271 f)
noncomputable def fn273 : FT := fun f => sel (Nat.ble f 139) (fun _ => fn267 f) (fun _ => fn272 f)
noncomputable def fn274 : FT := fun f => sel (Nat.beq f 144) (fun _ => some Go.Proofs.Try.f144) (fun _ => none)
noncomputable def fn275 : FT := fun f => sel (Nat.beq f 146) (fun _ => some Go.Proofs.Try.f146) (fun _ => none)
noncomputable def fn276 : FT := fun f => sel (Nat.beq f 147) (fun _ => some Go.Proofs.Try.f147) (fun _ => none)
noncomputable def fn277 : FT := fun f => sel (Nat.ble f 146) (fun _ => fn275 f) (fun _ => fn276 f)
noncomputable def fn278 : FT := fun f => sel (Nat.ble f 144) (fun _ => fn274 f) (fun _ => fn277 f)
noncomputable def fn279 : FT := fun f => sel (Nat.beq f 148) (fun _ => some Go.Proofs.Try.f148) (fun _ => none)
noncomputable def fn280 : FT := fun f => sel (Nat.beq f 149) (fun _ => some Go.Proofs.Try.f149) (fun _ => none)
noncomputable def fn281 : FT := fun f => sel (Nat.beq f 150) (fun _ => some Go.Proofs.Try.f150) (fun _ => none)
noncomputable def fn282 : FT := fun f => sel (Nat.ble f 149) (fun _ => fn280 f) (fun _ => fn281 f)
noncomputable def fn283 : FT := fun f => sel (Nat.ble f 148) (fun _ => fn279 f) (fun _ => fn282 f)
noncomputable def fn284 : FT := fun f => sel (Nat.ble f 147) (fun _ => fn278 f) (fun _ => fn283 f)
noncomputable def fn285 : FT := fun f => sel (Nat.ble f 142) (fun _ => fn273 f) (fun _ => fn284 f)
noncomputable def fn286 : FT := fun f => sel (Nat.ble f 137) (fun _ => fn264 f) (fun _ => fn285 f)
noncomputable def fn287 : FT := fun f => sel (Nat.beq f 151) (fun _ => some Go.Proofs.Try.f151) (fun _ => none)
noncomputable def fn288 : FT := fun f => sel (Nat.beq f 152) (fun _ => some Go.Proofs.Try.f152) (fun _ => none)
noncomputable def fn289 : FT := fun f => sel (Nat.ble f 151) (fun _ => fn287 f) (fun _ => fn288 f)
noncomputable def fn290 : FT := fun f => sel (Nat.beq f 153) (fun _ => some Go.Proofs.Try.f153) (fun _ => none)
noncomputable def fn291 : FT := fun f => sel (Nat.beq f 154) (fun _ => some Go.Proofs.Try.f154) (fun _ => none)
noncomputable def fn292 : FT := fun f => sel (Nat.beq f 155) (fun _ => some Go.Proofs.Try.f155) (fun _ => none)
noncomputable def fn293 : FT := fun f => sel (Nat.ble f 154) (fun _ => fn291 f) (fun _ => fn292 f)
noncomputable def fn294 : FT := fun f => sel (Nat.ble f 153) (fun _ => fn290 f) (fun _ => fn293 f)
noncomputable def fn295 : FT := fun f => sel (Nat.ble f 152) (fun _ => fn289 f) (fun _ => fn294 f)
noncomputable def fn296 : FT := fun f => sel (Nat.beq f 156) (fun _ => some Go.Proofs.Try.f156) (fun _ => none)
noncomputable def fn297 : FT := fun f => sel (Nat.beq f 157) (fun _ => some Go.Proofs.Try.f157) (fun _ => none)
noncomputable def fn298 : FT := fun f => sel (Nat.ble f 156) (fun _ => fn296 f) (fun _ => fn297 f)
noncomputable def fn299 : FT := fun f => sel (Nat.beq f 158) (fun _ => some Go.Proofs.Try.f158) (fun _ => none)
noncomputable def fn300 : FT := fun f => sel (Nat.beq f 159) (fun _ => some Go.Proofs.Try.f159) (fun _ => none)
noncomputable def fn301 : FT := fun f => sel (Nat.beq f 160) (fun _ => some Go.Proofs.Try.f160) (fun _ => none)
noncomputable def fn302 : FT := fun f => sel (Nat.ble f 159) (fun _ => fn300 f) (fun _ => fn301 f)
noncomputable def fn303 : FT := fun f => sel (Nat.ble f 158) (fun _ => fn299 f) (fun _ => fn302 f)
noncomputable def fn304 : FT := fun f => sel (Nat.ble f 157) (fun _ => fn298 f) (fun _ => fn303 f)
noncomputable def fn305 : FT := fun f => sel (Nat.ble f 155) (fun _ => fn295 f) (fun _ => fn304 f)
noncomputable def fn306 : FT := fun f => sel (Nat.beq f 161) (fun _ => some Go.Proofs.Try.f161) (fun _ => none)
noncomputable def fn307 : FT := fun f => sel (Nat.beq f 162) (fun _ => some Go.Proofs.Try.f162) (fun _ => none)
noncomputable def fn308 : FT := fun f => sel (Nat.ble f 161) (fun _ => fn306 f) (fun _ => fn307 f)
noncomputable def fn309 : FT := fun f => sel (Nat.beq f 163) (fun _ => some Go.Proofs.Try.f163) (fun _ => none)
noncomputable def fn310 : FT := fun f => sel (Nat.beq f 164) (fun _ => some Go.Proofs.Try.f164) (fun _ => none)
noncomputable def fn311 : FT := fun f => sel (Nat.beq f 165) (fun _ => some Go.Proofs.Try.f165) (fun _ => none)
noncomputable def fn312 : FT := fun f => sel (Nat.ble f 164) (fun _ => fn310 f) (fun _ => fn311 f)
noncomputable def fn313 : FT := fun f => sel (Nat.ble f 163) (fun _ => fn309 f) (fun _ => fn312 f)
noncomputable def fn314 : FT := fun f => sel (Nat.ble f 162) (fun _ => fn308 f) (fun _ => fn313 f)
noncomputable def fn315 : FT := fun f => sel (Nat.beq f 166) (fun _ => some Go.Proofs.Try.f166) (fun _ => none)
noncomputable def fn316 : FT := fun f => sel (Nat.beq f 167) (fun _ => some Go.Proofs.Try.f167) (fun _ => none)
noncomputable def fn317 : FT := fun f => sel (Nat.beq f 168) (fun _ => some Go.Proofs.Try.f168) (fun _ => none)
noncomputable def fn318 : FT := fun f => sel (Nat.ble f 167) (fun _ => fn316 f) (fun _ => fn317 f)
noncomputable def fn319 : FT := fun f => sel (Nat.ble f 166) (fun _ => fn315 f) (fun _ => fn318 f)
noncomputable def fn320 : FT := fun f => sel (Nat.beq f 169) (fun _ => some Go.Proofs.Try.f169) (fun _ => none)
noncomputable def fn321 : FT := fun f => sel (Nat.beq f 170) (fun _ => some Go.Proofs.Try.f170) (fun _ => none)
noncomputable def fn322 : FT := fun f => sel (Nat.beq f 171) (fun _ => some Go.Proofs.Try.f171) (fun _ => none)
noncomputable def fn323 : FT := fun f => sel (Nat.ble f 170) (fun _ => fn321 f) (fun _ => fn322 f)
noncomputable def fn324 : FT := fun f => sel (Nat.ble f 169) (fun _ => fn320 f) (fun _ => fn323 f)
noncomputable def fn325 : FT := fun f => sel (Nat.ble f 168) (fun _ => fn319 f) (fun _ => fn324 f)
noncomputable def fn326 : FT := fun f => sel (Nat.ble f 165) (fun _ => fn314 f) (fun _ => fn325 f)
noncomputable def fn327 : FT := fun f => sel (Nat.ble f 160) (fun _ => fn305 f) (fun _ => fn326 f)
noncomputable def fn328 : FT := fun f => sel (Nat.ble f 150) (fun _ => fn286 f) (fun _ => fn327 f)
noncomputable def fn329 : FT := fun f => sel (Nat.ble f 126) (fun _ => fn245 f) (fun _ => fn328 f)
noncomputable def fn330 : FT := fun f => sel (Nat.ble f 85) (fun _ => fn164 f) (fun _ => fn329 f)
noncomputable def fts : FT := fun f => fn330 f
theorem fk2 : okF Go.Proofs.Try.f2 = true := by decide +kernel
theorem fk3 : okF Go.Proofs.Try.f3 = true := by decide +kernel
theorem fk4 : okF Go.Proofs.Try.f4 = true := by decide +kernel
theorem fk5 : okF Go.Proofs.Try.f5 = true := by decide +kernel
theorem fk6 : okF Go.Proofs.Try.f6 = true := by decide +kernel
theorem fk7 : okF Go.Proofs.Try.f7 = true := by decide +kernel
theorem fk8 : okF Go.Proofs.Try.f8 = true := by decide +kernel
theorem fk9 : okF Go.Proofs.Try.f9 = true := by decide +kernel
theorem fk10 : okF Go.Proofs.Try.f10 = true := by decide +kernel
theorem fk11 : okF Go.Proofs.Try.f11 = true := by decide +kernel
theorem fk12 : okF Go.Proofs.Try.f12 = true := by decide +kernel
theorem fk13 : okF Go.Proofs.Try.f13 = true := by decide +kernel
theorem fk14 : okF Go.Proofs.Try.f14 = true := by decide +kernel
theorem fk15 : okF Go.Proofs.Try.f15 = true := by decide +kernel
theorem fk16 : okF Go.Proofs.Try.f16 = true := by decide +kernel
theorem fk17 : okF Go.Proofs.Try.f17 = true := by decide +kernel
theorem fk18 : okF Go.Proofs.Try.f18 = true := by decide +kernel
theorem fk19 : okF Go.Proofs.Try.f19 = true := by decide +kernel
theorem fk20 : okF Go.Proofs.Try.f20 = true := by decide +kernel
theorem fk21 : okF Go.Proofs.Try.f21 = true := by decide +kernel
theorem fk22 : okF Go.Proofs.Try.f22 = true := by decide +kernel
theorem fk23 : okF Go.Proofs.Try.f23 = true := by decide +kernel
theorem fk24 : okF Go.Proofs.Try.f24 = true := by decide +kernel
theorem fk25 : okF Go.Proofs.Try.f25 = true := by decide +kernel
theorem fk26 : okF Go.Proofs.Try.f26 = true := by decide +kernel
theorem fk27 : okF Go.Proofs.Try.f27 = true := by decide +kernel
theorem fk28 : okF Go.Proofs.Try.f28 = true := by decide +kernel
theorem fk29 : okF Go.Proofs.Try.f29 = true := by decide +kernel
theorem fk30 : okF Go.Proofs.Try.f30 = true := by decide +kernel
theorem fk31 : okF Go.Proofs.Try.f31 = true := by decide +kernel
theorem fk32 : okF Go.Proofs.Try.f32 = true := by decide +kernel
theorem fk33 : okF Go.Proofs.Try.f33 = true := by decide +kernel
theorem fk34 : okF Go.Proofs.Try.f34 = true := by decide +kernel
theorem fk35 : okF Go.Proofs.Try.f35 = true := by decide +kernel
theorem fk36 : okF Go.Proofs.Try.f36 = true := by decide +kernel
theorem fk37 : okF Go.Proofs.Try.f37 = true := by decide +kernel
theorem fk38 : okF Go.Proofs.Try.f38 = true := by decide +kernel
theorem fk39 : okF Go.Proofs.Try.f39 = true := by decide +kernel
theorem fk40 : okF Go.Proofs.Try.f40 = true := by decide +kernel
theorem fk41 : okF Go.Proofs.Try.f41 = true := by decide +kernel
theorem fk42 : okF Go.Proofs.Try.f42 = true := by decide +kernel
theorem fk43 : okF Go.Proofs.Try.f43 = true := by decide +kernel
theorem fk45 : okF Go.Proofs.Try.f45 = true := by decide +kernel
theorem fk46 : okF Go.Proofs.Try.f46 = true := by decide +kernel
theorem fk47 : okF Go.Proofs.Try.f47 = true := by decide +kernel
theorem fk48 : okF Go.Proofs.Try.f48 = true := by decide +kernel
theorem fk49 : okF Go.Proofs.Try.f49 = true := by decide +kernel
theorem fk50 : okF Go.Proofs.Try.f50 = true := by decide +kernel
theorem fk51 : okF Go.Proofs.Try.f51 = true := by decide +kernel
theorem fk52 : okF Go.Proofs.Try.f52 = true := by decide +kernel
theorem fk53 : okF Go.Proofs.Try.f53 = true := by decide +kernel
theorem fk54 : okF Go.Proofs.Try.f54 = true := by decide +kernel
theorem fk55 : okF Go.Proofs.Try.f55 = true := by decide +kernel
theorem fk56 : okF Go.Proofs.Try.f56 = true := by decide +kernel
theorem fk57 : okF Go.Proofs.Try.f57 = true := by decide +kernel
theorem fk58 : okF Go.Proofs.Try.f58 = true := by decide +kernel
theorem fk59 : okF Go.Proofs.Try.f59 = true := by decide +kernel
theorem fk60 : okF Go.Proofs.Try.f60 = true := by decide +kernel
theorem fk61 : okF Go.Proofs.Try.f61 = true := by decide +kernel
theorem fk62 : okF Go.Proofs.Try.f62 = true := by decide +kernel
theorem fk63 : okF Go.Proofs.Try.f63 = true := by decide +kernel
theorem fk64 : okF Go.Proofs.Try.f64 = true := by decide +kernel
theorem fk65 : okF Go.Proofs.Try.f65 = true := by decide +kernel
theorem fk66 : okF Go.Proofs.Try.f66 = true := by decide +kernel
theorem fk67 : okF Go.Proofs.Try.f67 = true := by decide +kernel
theorem fk68 : okF Go.Proofs.Try.f68 = true := by decide +kernel
theorem fk69 : okF Go.Proofs.Try.f69 = true := by decide +kernel
theorem fk70 : okF Go.Proofs.Try.f70 = true := by decide +kernel
theorem fk71 : okF Go.Proofs.Try.f71 = true := by decide +kernel
theorem fk72 : okF Go.Proofs.Try.f72 = true := by decide +kernel
theorem fk73 : okF Go.Proofs.Try.f73 = true := by decide +kernel
theorem fk74 : okF Go.Proofs.Try.f74 = true := by decide +kernel
theorem fk75 : okF Go.Proofs.Try.f75 = true := by decide +kernel
theorem fk76 : okF Go.Proofs.Try.f76 = true := by decide +kernel
theorem fk77 : okF Go.Proofs.Try.f77 = true := by decide +kernel
theorem fk78 : okF Go.Proofs.Try.f78 = true := by decide +kernel
theorem fk79 : okF Go.Proofs.Try.f79 = true := by decide +kernel
theorem fk80 : okF Go.Proofs.Try.f80 = true := by decide +kernel
theorem fk81 : okF Go.Proofs.Try.f81 = true := by decide +kernel
theorem fk82 : okF Go.Proofs.Try.f82 = true := by decide +kernel
theorem fk83 : okF Go.Proofs.Try.f83 = true := by decide +kernel
theorem fk84 : okF Go.Proofs.Try.f84 = true := by decide +kernel
theorem fk85 : okF Go.Proofs.Try.f85 = true := by decide +kernel
theorem fk86 : okF Go.Proofs.Try.f86 = true := by decide +kernel
theorem fk87 : okF Go.Proofs.Try.f87 = true := by decide +kernel
theorem fk88 : okF Go.Proofs.Try.f88 = true := by decide +kernel
theorem fk89 : okF Go.Proofs.Try.f89 = true := by decide +kernel
theorem fk90 : okF Go.Proofs.Try.f90 = true := by decide +kernel
theorem fk91 : okF Go.Proofs.Try.f91 = true := by decide +kernel
theorem fk92 : okF Go.Proofs.Try.f92 = true := by decide +kernel
theorem fk93 : okF Go.Proofs.Try.f93 = true := by decide +kernel
theorem fk94 : okF Go.Proofs.Try.f94 = true := by decide +kernel
theorem fk95 : okF Go.Proofs.Try.f95 = true := by decide +kernel
theorem fk96 : okF Go.Proofs.Try.f96 = true := by decide +kernel
theorem fk97 : okF Go.Proofs.Try.f97 = true := by decide +kernel
theorem fk98 : okF Go.Proofs.Try.f98 = true := by decide +kernel
theorem fk99 : okF Go.Proofs.Try.f99 = true := by decide +kernel
theorem fk100 : okF Go.Proofs.Try.f100 = true := by decide +kernel
theorem fk101 : okF Go.Proofs.Try.f101 = true := by decide +kernel
theorem fk102 : okF Go.Proofs.Try.f102 = true := by decide +kernel
theorem fk103 : okF Go.Proofs.Try.f103 = true := by decide +kernel
theorem fk104 : okF Go.Proofs.Try.f104 = true := by decide +kernel
theorem fk105 : okF Go.Proofs.Try.f105 = true := by decide +kernel
theorem fk106 : okF Go.Proofs.Try.f106 = true := by decide +kernel
theorem fk107 : okF Go.Proofs.Try.f107 = true := by decide +kernel
theorem fk108 : okF Go.Proofs.Try.f108 = true := by decide +kernel
theorem fk109 : okF Go.Proofs.Try.f109 = true := by decide +kernel
theorem fk110 : okF Go.Proofs.Try.f110 = true := by decide +kernel
theorem fk111 : okF Go.Proofs.Try.f111 = true := by decide +kernel
theorem fk112 : okF Go.Proofs.Try.f112 = true := by decide +kernel
theorem fk113 : okF Go.Proofs.Try.f113 = true := by decide +kernel
theorem fk114 : okF Go.Proofs.Try.f114 = true := by decide +kernel
theorem fk115 : okF Go.Proofs.Try.f115 = true := by decide +kernel
theorem fk116 : okF Go.Proofs.Try.f116 = true := by decide +kernel
theorem fk117 : okF Go.Proofs.Try.f117 = true := by decide +kernel
theorem fk118 : okF Go.Proofs.Try.f118 = true := by decide +kernel
theorem fk119 : okF Go.Proofs.Try.f119 = true := by decide +kernel
theorem fk120 : okF Go.Proofs.Try.f120 = true := by decide +kernel
theorem fk121 : okF Go.Proofs.Try.f121 = true := by decide +kernel
theorem fk122 : okF Go.Proofs.Try.f122 = true := by decide +kernel
theorem fk123 : okF Go.Proofs.Try.f123 = true := by decide +kernel
theorem fk124 : okF Go.Proofs.Try.f124 = true := by decide +kernel
theorem fk125 : okF Go.Proofs.Try.f125 = true := by decide +kernel
theorem fk126 : okF Go.Proofs.Try.f126 = true := by decide +kernel
theorem fk127 : okF Go.Proofs.Try.f127 = true := by decide +kernel
theorem fk128 : okF Go.Proofs.Try.f128 = true := by decide +kernel
theorem fk129 : okF Go.Proofs.Try.f129 = true := by decide +kernel
theorem fk131 : okF Go.Proofs.Try.f131 = true := by decide +kernel
theorem fk132 : okF Go.Proofs.Try.f132 = true := by decide +kernel
theorem fk133 : okF Go.Proofs.Try.f133 = true := by decide +kernel
theorem fk134 : okF Go.Proofs.Try.f134 = true := by decide +kernel
theorem fk135 : okF Go.Proofs.Try.f135 = true := by decide +kernel
theorem fk136 : okF Go.Proofs.Try.f136 = true := by decide +kernel
theorem fk137 : okF Go.Proofs.Try.f137 = true := by decide +kernel
theorem fk138 : okF Go.Proofs.Try.f138 = true := by decide +kernel
theorem fk139 : okF Go.Proofs.Try.f139 = true := by decide +kernel
theorem fk140 : okF Go.Proofs.Try.f140 = true := by decide +kernel
theorem fk141 : okF Go.Proofs.Try.f141 = true := by decide +kernel
theorem fk142 : okF Go.Proofs.Try.f142 = true := by decide +kernel
theorem fk144 : okF Go.Proofs.Try.f144 = true := by decide +kernel
theorem fk146 : okF Go.Proofs.Try.f146 = true := by decide +kernel
theorem fk147 : okF Go.Proofs.Try.f147 = true := by decide +kernel
theorem fk148 : okF Go.Proofs.Try.f148 = true := by decide +kernel
theorem fk149 : okF Go.Proofs.Try.f149 = true := by decide +kernel
theorem fk150 : okF Go.Proofs.Try.f150 = true := by decide +kernel
theorem fk151 : okF Go.Proofs.Try.f151 = true := by decide +kernel
theorem fk152 : okF Go.Proofs.Try.f152 = true := by decide +kernel
theorem fk153 : okF Go.Proofs.Try.f153 = true := by decide +kernel
theorem fk154 : okF Go.Proofs.Try.f154 = true := by decide +kernel
theorem fk155 : okF Go.Proofs.Try.f155 = true := by decide +kernel
theorem fk156 : okF Go.Proofs.Try.f156 = true := by decide +kernel
theorem fk157 : okF Go.Proofs.Try.f157 = true := by decide +kernel
theorem fk158 : okF Go.Proofs.Try.f158 = true := by decide +kernel
theorem fk159 : okF Go.Proofs.Try.f159 = true := by decide +kernel
theorem fk160 : okF Go.Proofs.Try.f160 = true := by decide +kernel
theorem fk161 : okF Go.Proofs.Try.f161 = true := by decide +kernel
theorem fk162 : okF Go.Proofs.Try.f162 = true := by decide +kernel
theorem fk163 : okF Go.Proofs.Try.f163 = true := by decide +kernel
theorem fk164 : okF Go.Proofs.Try.f164 = true := by decide +kernel
theorem fk165 : okF Go.Proofs.Try.f165 = true := by decide +kernel
theorem fk166 : okF Go.Proofs.Try.f166 = true := by decide +kernel
theorem fk167 : okF Go.Proofs.Try.f167 = true := by decide +kernel
theorem fk168 : okF Go.Proofs.Try.f168 = true := by decide +kernel
theorem fk169 : okF Go.Proofs.Try.f169 = true := by decide +kernel
theorem fk170 : okF Go.Proofs.Try.f170 = true := by decide +kernel
theorem fk171 : okF Go.Proofs.Try.f171 = true := by decide +kernel
theorem fts_ok : FTok Go.Proofs.Try.prog fts := fun f => (ftBr (ftBr (ftBr (ftBr (ftBr (ftBr (ftBr (ftLeaf Go.Proofs.Try.func2 fk2) (ftLeaf Go.Proofs.Try.func3 fk3)) (ftBr (ftLeaf Go.Proofs.Try.func4 fk4) (ftBr (ftLeaf Go.Proofs.Try.func5 fk5) (ftLeaf Go.Proofs.Try.func6 fk6)))) (ftBr (ftBr (ftLeaf Go.Proofs.Try.func7 fk7) (ftLeaf Go.Proofs.Try.func8 fk8)) (ftBr (ftLeaf Go.Proofs.Try.func9 fk9) (ftBr (ftLeaf Go.Proofs.Try.func10 fk10) (ftLeaf Go.Proofs.Try.func11 fk11))))) (ftBr (ftBr (ftBr (ftLeaf Go.Proofs.Try.func12 fk12) (ftLeaf Go.Proofs.Try.func13 fk13)) (ftBr (ftLeaf Go.Proofs.Try.func14 fk14) (ftBr (ftLeaf Go.Proofs.Try.func15 fk15) (ftLeaf Go.Proofs.Try.func16 fk16)))) (ftBr (ftBr (ftLeaf Go.Proofs.Try.func17 fk17) (ftLeaf Go.Proofs.Try.func18 fk18)) (ftBr (ftLeaf Go.Proofs.Try.func19 fk19) (ftBr (ftLeaf Go.Proofs.Try.func20 fk20) (ftLeaf Go.Proofs.Try.func21 fk21)))))) (ftBr (ftBr (ftBr (ftBr (ftLeaf Go.Proofs.Try.func22 fk22) (ftLeaf Go.Proofs.Try.func23 fk23)) (ftBr (ftLeaf Go.Proofs.Try.func24 fk24) (ftBr (ftLeaf Go.Proofs.Try.func25 fk25) (ftLeaf Go.Proofs.Try.func26 fk26)))) (ftBr (ftBr (ftLeaf Go.Proofs.Try.func27 fk27) (ftLeaf Go.Proofs.Try.func28 fk28)) (ftBr (ftLeaf Go.Proofs.Try.func29 fk29) (ftBr (ftLeaf Go.Proofs.Try.func30 fk30) (ftLeaf Go.Proofs.Try.func31 fk31))))) (ftBr (ftBr (ftBr (ftLeaf Go.Proofs.Try.func32 fk32) (ftLeaf Go.Proofs.Try.func33 fk33)) (ftBr (ftLeaf Go.Proofs.Try.func34 fk34) (ftBr (ftLeaf Go.Proofs.Try.func35 fk35) (ftLeaf Go.Proofs.Try.func36 fk36)))) (ftBr (ftBr (ftLeaf Go.Proofs.Try.func37 fk37) (ftBr (ftLeaf Go.Proofs.Try.func38 fk38) (ftLeaf Go.Proofs.Try.func39 fk39))) (ftBr (ftLeaf Go.Proofs.Try.func40 fk40) (ftBr (ftLeaf Go.Proofs.Try.func41 fk41) (ftLeaf Go.Proofs.Try.func42 fk42))))))) (ftBr (ftBr (ftBr (ftBr (ftBr (ftLeaf Go.Proofs.Try.func43 fk43) (ftLeaf Go.Proofs.Try.func45 fk45)) (ftBr (ftLeaf Go.Proofs.Try.func46 fk46) (ftBr (ftLeaf Go.Proofs.Try.func47 fk47) (ftLeaf Go.Proofs.Try.func48 fk48)))) (ftBr (ftBr (ftLeaf Go.Proofs.Try.func49 fk49) (ftLeaf Go.Proofs.Try.func50 fk50)) (ftBr (ftLeaf Go.Proofs.Try.func51 fk51) (ftBr (ftLeaf Go.Proofs.Try.func52 fk52) (ftLeaf Go.Proofs.Try.func53 fk53))))) (ftBr (ftBr (ftBr (ftLeaf Go.Proofs.Try.func54 fk54) (ftLeaf Go.Proofs.Try.func55 fk55)) (ftBr (ftLeaf Go.Proofs.Try.func56 fk56) (ftBr (ftLeaf Go.Proofs.Try.func57 fk57) (ftLeaf Go.Proofs.Try.func58 fk58)))) (ftBr (ftBr (ftLeaf Go.Proofs.Try.func59 fk59) (ftBr (ftLeaf Go.Proofs.Try.func60 fk60) (ftLeaf Go.Proofs.Try.func61 fk61))) (ftBr (ftLeaf Go.Proofs.Try.func62 fk62) (ftBr (ftLeaf Go.Proofs.Try.func63 fk63) (ftLeaf Go.Proofs.Try.func64 fk64)))))) (ftBr (ftBr (ftBr (ftBr (ftLeaf Go.Proofs.Try.func65 fk65) (ftLeaf Go.Proofs.Try.func66 fk66)) (ftBr (ftLeaf Go.Proofs.Try.func67 fk67) (ftBr (ftLeaf Go.Proofs.Try.func68 fk68) (ftLeaf Go.Proofs.Try.func69 fk69)))) (ftBr (ftBr (ftLeaf Go.Proofs.Try.func70 fk70) (ftLeaf Go.Proofs.Try.func71 fk71)) (ftBr (ftLeaf Go.Proofs.Try.func72 fk72) (ftBr (ftLeaf Go.Proofs.Try.func73 fk73) (ftLeaf Go.Proofs.Try.func74 fk74))))) (ftBr (ftBr (ftBr (ftLeaf Go.Proofs.Try.func75 fk75) (ftLeaf Go.Proofs.Try.func76 fk76)) (ftBr (ftLeaf Go.Proofs.Try.func77 fk77) (ftBr (ftLeaf Go.Proofs.Try.func78 fk78) (ftLeaf Go.Proofs.Try.func79 fk79)))) (ftBr (ftBr (ftLeaf Go.Proofs.Try.func80 fk80) (ftBr (ftLeaf Go.Proofs.Try.func81 fk81) (ftLeaf Go.Proofs.Try.func82 fk82))) (ftBr (ftLeaf Go.Proofs.Try.func83 fk83) (ftBr (ftLeaf Go.Proofs.Try.func84 fk84) (ftLeaf Go.Proofs.Try.func85 fk85)))))))) (ftBr (ftBr (ftBr (ftBr (ftBr (ftBr (ftLeaf Go.Proofs.Try.func86 fk86) (ftLeaf Go.Proofs.Try.func87 fk87)) (ftBr (ftLeaf Go.Proofs.Try.func88 fk88) (ftBr (ftLeaf Go.Proofs.Try.func89 fk89) (ftLeaf Go.Proofs.Try.func90 fk90)))) (ftBr (ftBr (ftLeaf Go.Proofs.Try.func91 fk91) (ftLeaf Go.Proofs.Try.func92 fk92)) (ftBr (ftLeaf Go.Proofs.Try.func93 fk93) (ftBr (ftLeaf Go.Proofs.Try.func94 fk94) (ftLeaf Go.Proofs.Try.func95 fk95))))) (ftBr (ftBr (ftBr (ftLeaf Go.Proofs.Try.func96 fk96) (ftLeaf Go.Proofs.Try.func97 fk97)) (ftBr (ftLeaf Go.Proofs.Try.func98 fk98) (ftBr (ftLeaf Go.Proofs.Try.func99 fk99) (ftLeaf Go.Proofs.Try.func100 fk100)))) (ftBr (ftBr (ftLeaf Go.Proofs.Try.func101 fk101) (ftLeaf Go.Proofs.Try.func102 fk102)) (ftBr (ftLeaf Go.Proofs.Try.func103 fk103) (ftBr (ftLeaf Go.Proofs.Try.func104 fk104) (ftLeaf Go.Proofs.Try.func105 fk105)))))) (ftBr (ftBr (ftBr (ftBr (ftLeaf Go.Proofs.Try.func106 fk106) (ftLeaf Go.Proofs.Try.func107 fk107)) (ftBr (ftLeaf Go.Proofs.Try.func108 fk108) (ftBr (ftLeaf Go.Proofs.Try.func109 fk109) (ftLeaf Go.Proofs.Try.func110 fk110)))) (ftBr (ftBr (ftLeaf Go.Proofs.Try.func111 fk111) (ftLeaf Go.Proofs.Try.func112 fk112)) (ftBr (ftLeaf Go.Proofs.Try.func113 fk113) (ftBr (ftLeaf Go.Proofs.Try.func114 fk114) (ftLeaf Go.Proofs.Try.func115 fk115))))) (ftBr (ftBr (ftBr (ftLeaf Go.Proofs.Try.func116 fk116) (ftLeaf Go.Proofs.Try.func117 fk117)) (ftBr (ftLeaf Go.Proofs.Try.func118 fk118) (ftBr (ftLeaf Go.Proofs.Try.func119 fk119) (ftLeaf Go.Proofs.Try.func120 fk120)))) (ftBr (ftBr (ftLeaf Go.Proofs.Try.func121 fk121) (ftBr (ftLeaf Go.Proofs.Try.func122 fk122) (ftLeaf Go.Proofs.Try.func123 fk123))) (ftBr (ftLeaf Go.Proofs.Try.func124 fk124) (ftBr (ftLeaf Go.Proofs.Try.func125 fk125) (ftLeaf Go.Proofs.Try.func126 fk126))))))) (ftBr (ftBr (ftBr (ftBr (ftBr (ftLeaf Go.Proofs.Try.func127 fk127) (ftLeaf Go.Proofs.Try.func128 fk128)) (ftBr (ftLeaf Go.Proofs.Try.func129 fk129) (ftBr (ftLeaf Go.Proofs.Try.func131 fk131) (ftLeaf Go.Proofs.Try.func132 fk132)))) (ftBr (ftBr (ftLeaf Go.Proofs.Try.func133 fk133) (ftLeaf Go.Proofs.Try.func134 fk134)) (ftBr (ftLeaf Go.Proofs.Try.func135 fk135) (ftBr (ftLeaf Go.Proofs.Try.func136 fk136) (ftLeaf Go.Proofs.Try.func137 fk137))))) (ftBr (ftBr (ftBr (ftLeaf Go.Proofs.Try.func138 fk138) (ftLeaf Go.Proofs.Try.func139 fk139)) (ftBr (ftLeaf Go.Proofs.Try.func140 fk140) (ftBr (ftLeaf Go.Proofs.Try.func141 fk141) (ftLeaf Go.Proofs.Try.func142 fk142)))) (ftBr (ftBr (ftLeaf Go.Proofs.Try.func144 fk144) (ftBr (ftLeaf Go.Proofs.Try.func146 fk146) (ftLeaf Go.Proofs.Try.func147 fk147))) (ftBr (ftLeaf Go.Proofs.Try.func148 fk148) (ftBr (ftLeaf Go.Proofs.Try.func149 fk149) (ftLeaf Go.Proofs.Try.func150 fk150)))))) (ftBr (ftBr (ftBr (ftBr (ftLeaf Go.Proofs.Try.func151 fk151) (ftLeaf Go.Proofs.Try.func152 fk152)) (ftBr (ftLeaf Go.Proofs.Try.func153 fk153) (ftBr (ftLeaf Go.Proofs.Try.func154 fk154) (ftLeaf Go.Proofs.Try.func155 fk155)))) (ftBr (ftBr (ftLeaf Go.Proofs.Try.func156 fk156) (ftLeaf Go.Proofs.Try.func157 fk157)) (ftBr (ftLeaf Go.Proofs.Try.func158 fk158) (ftBr (ftLeaf Go.Proofs.Try.func159 fk159) (ftLeaf Go.Proofs.Try.func160 fk160))))) (ftBr (ftBr (ftBr (ftLeaf Go.Proofs.Try.func161 fk161) (ftLeaf Go.Proofs.Try.func162 fk162)) (ftBr (ftLeaf Go.Proofs.Try.func163 fk163) (ftBr (ftLeaf Go.Proofs.Try.func164 fk164) (ftLeaf Go.Proofs.Try.func165 fk165)))) (ftBr (ftBr (ftLeaf Go.Proofs.Try.func166 fk166) (ftBr (ftLeaf Go.Proofs.Try.func167 fk167) (ftLeaf Go.Proofs.Try.func168 fk168))) (ftBr (ftLeaf Go.Proofs.Try.func169 fk169) (ftBr (ftLeaf Go.Proofs.Try.func170 fk170) (ftLeaf Go.Proofs.Try.func171 fk171)))))))))
end Go.Proofs.Ytpopapmmceopmaa.X
