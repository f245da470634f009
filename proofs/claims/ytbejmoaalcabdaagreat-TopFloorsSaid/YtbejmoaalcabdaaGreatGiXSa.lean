/- part 6 -/
import Derived.Test.YtbejmoaalcabdaaGreatGiAbD
set_option linter.unusedVariables false
set_option maxRecDepth 100000
namespace Go.Ab.Gi
abbrev K0q : Type := (List Int) × Bool
abbrev wE : Go.Ab.Ty := .pair (.int .i64) (.int .i64)
abbrev vB : Type := Int × (List Int) × Int × (List Int) × Int × Int × Int × Bool × Bool × Int
abbrev K3q : Type := Int × Int × (List Int) × Int × Int
abbrev K4q : Type := Int × Int × Bool × Bool
abbrev jM : Type := Int × Int × Bool
abbrev jR : Type := Int × Int × Int × Bool
abbrev K7q : Type := Int × Int × Int × Int × Int × Bool × Bool × Int
abbrev qJ : Type := Int × Int × Int × Int × Int × Int × Int × Int
abbrev zF : Type := Int × Int × Int × Int × Int × Int × Int
abbrev zQ : Type := Int × Int × Int
abbrev vX : Type := Int × Int
abbrev zRz : Type := (List zQ) × (List (List Int)) × (List Int) × (List (List Int)) × (List zF) × (List zF)
abbrev zOb : Type := (List zQ) × (List (List Int)) × (List Int) × (List (List Int))
abbrev qZ : Go.Ab.Ty := .pair (.int .i64) wE
abbrev qXv : Type := Bool × Int × Int × Int × Int × Int × Int × Int × Int × Int × Int × Int × Int × Int × Int × (List zQ) × (List (List Int)) × (List Int) × (List (List Int))
abbrev qKm : Type := Int × (List zQ) × (List (List Int)) × (List Int) × (List (List Int)) × (List Int) × (List (List Int)) × (List zF) × (List Int) × Int × Bool × (List qJ)
abbrev vC : Type := Int × (List zQ) × (List (List Int)) × (List Int) × (List (List Int)) × (List Int) × (List (List Int)) × (List zF) × (List Int) × Int × Bool
abbrev wD : Type := Int × (List vX) × Int × Int × Int × Int × (List zQ) × (List (List Int)) × (List Int) × (List (List Int)) × (List Int) × (List (List Int)) × (List zF) × (List Int) × Int × Bool × Int × (List qJ)
abbrev zDa : Type := Int × (List vX) × Int × Int × Int × Int × (List zQ) × (List (List Int)) × (List Int) × (List (List Int)) × (List Int) × (List (List Int)) × (List zF) × (List Int) × Int × Bool × Int × Bool
abbrev zBl : Type := Int × (List vX) × Int × Int × Int × Int × (List zQ) × (List (List Int)) × (List Int) × (List (List Int)) × (List Int) × (List (List Int)) × (List zF) × (List Int) × Int × Bool × Int
abbrev yW : Type := Int × (List vX) × Int × Int × Int
abbrev yQc : Go.Ab.Ty := .pair (.int .i64) qZ
abbrev vCb : Go.Ab.Ty := .pair (.int .i64) yQc
abbrev vHl : Go.Ab.Ty := .pair (.int .i64) vCb
abbrev zN : Go.Ab.Ty := .pair (.int .i64) vHl
abbrev qU : Go.Ab.Ty := .pair (.int .i64) zN
abbrev qN0 : List Go.Ab.CS := [.dat false (.int .i64), .dat false (.int .i64), .dat false (.sl (.int .i64))]
abbrev zCq : List Go.Ab.CS := [.dat false qZ, .dat false (.sl (.int .i64)), .dat false (.int .i64), .dat false (.sl (.int .i64))]
abbrev zL1 : List Go.Ab.CS := [.dat true (.int .u8), .bool]
abbrev zAh : List Go.Ab.CS := [.dat true qZ, .dat true (.sl (.int .i64)), .dat true (.int .i64), .dat true (.sl (.int .i64))]
abbrev zY4 : List Go.Ab.CS := [.int .i64, .dat false qZ, .dat false (.sl (.int .i64)), .dat false (.int .i64), .dat false (.sl (.int .i64)), .dat false (.int .i64), .dat false (.sl (.int .i64)), .dat false zN, .dat false (.int .i64), .int .i64, .bool]
abbrev zGb : List Go.Ab.CS := [.int .i64, .dat false wE, .int .i64, .int .i64, .int .i64]
abbrev zAo : List Go.Ab.CS := [.int .i64, .dat true qZ, .dat true (.sl (.int .i64)), .dat true (.int .i64), .dat true (.sl (.int .i64)), .dat true (.int .i64), .dat true (.sl (.int .i64)), .dat true zN, .dat true (.int .i64), .int .i64, .bool]
abbrev zFl : List Go.Ab.CS := [.int .i64, .dat true wE, .int .i64, .int .i64, .int .i64]
abbrev qMx : List Go.Ab.CS := [.int .i64, .dat true wE, .int .i64, .int .i64, .int .i64, .int .i64, .dat true qZ, .dat true (.sl (.int .i64)), .dat true (.int .i64), .dat true (.sl (.int .i64)), .dat true (.int .i64), .dat true (.sl (.int .i64)), .dat true zN, .dat true (.int .i64), .int .i64, .bool, .int .i64, .lit (.osl 1001001 none)]
abbrev qGj : List Go.Ab.CS := [.int .i64, .dat true wE, .int .i64, .int .i64, .int .i64, .int .i64, .dat true qZ, .dat true (.sl (.int .i64)), .dat true (.int .i64), .dat true (.sl (.int .i64)), .dat true (.int .i64), .dat true (.sl (.int .i64)), .dat true zN, .dat true (.int .i64), .int .i64, .bool, .int .i64, .lit .nsl]
abbrev zBu : List Go.Ab.CS := [.int .i64, .int .i64, .int .i64, .int .i64, .int .i64, .int .i64, .int .i64]
abbrev qXf : List Go.Ab.CS := [.int .i64, .int .i64, .int .i64, .int .i64, .int .i64, .int .i64, .int .i64, .int .i64, .int .i64, .int .i64, .int .i64, .int .i64, .int .i64, .int .i64, .dat true qZ, .dat true (.sl (.int .i64)), .dat true (.int .i64), .dat true (.sl (.int .i64))]
abbrev zW1 : List Go.Ab.CS := [.int .i64, .int .i64, .int .i64, .int .i64, .int .i64, .int .i64, .int .i64, .int .i64, .int .i64, .int .i64, .int .i64, .int .i64, .int .i64, .int .i64, .lit .nsl, .lit .nsl, .lit .nsl, .lit .nsl]
abbrev yE8 : List Go.Ab.CS := [.int .i64, .lit (.osl 1001001 none), .int .i64, .lit (.osl 1001002 none), .int .i64, .int .i64, .int .i64, .bool, .bool, .int .i64]
abbrev qXt : List Go.Ab.CS := [.int .i64, .lit (.osl 1001003 none), .int .i64, .lit (.osl 1001004 none), .int .i64, .int .i64, .int .i64, .bool, .bool, .int .i64]
abbrev yN9 : List Go.Ab.CS := [.int .i64, .lit (.osl 1001003 none), .lit (.osl 1001004 none), .lit (.osl 1001005 none), .lit (.osl 1001006 none), .lit (.osl 1001007 none), .lit (.osl 1001008 none), .lit (.osl 1001009 none), .lit .nsl, .int .i64, .bool]
abbrev yN2 : List Go.Ab.CS := [.int .i64, .lit (.osl 1001003 none), .lit (.osl 1001004 none), .lit (.osl 1001005 none), .lit (.osl 1001006 none), .lit (.osl 1001007 none), .lit .nsl, .lit .nsl, .lit .nsl, .int .i64, .bool]
abbrev yGn : List Go.Ab.CS := [.int .i64, .lit (.osl 1001004 none), .lit .nsl, .lit .nsl, .lit .nsl, .lit .nsl, .lit .nsl, .lit .nsl, .lit .nsl, .int .i64, .bool]
abbrev zB5 : List Go.Ab.CS := [.int .i64, .lit .nsl, .lit .nsl, .lit .nsl, .lit .nsl, .lit .nsl, .lit .nsl, .lit .nsl, .lit .nsl, .int .i64, .bool]
abbrev qE2 : List Go.Ab.CS := [.lit (.osl 1001002 none), .lit (.osl 1001003 none), .lit (.osl 1001004 none)]
abbrev zXi : List Go.Ab.CS := [.lit (.osl 1001003 none), .lit (.osl 1001004 none), .lit (.osl 1001005 none), .lit (.osl 1001006 none)]
abbrev qUy : List Go.Ab.CS := [.lit (.osl 1001004 none), .lit (.osl 1001005 none), .lit (.osl 1001006 none), .lit (.osl 1001007 none)]
abbrev zS8 : List Go.Ab.CS := [.lit .nsl, .lit .nsl, .int .i64, .lit .nsl, .lit .nsl, .lit .nsl, .lit .nsl, .lit .nsl, .lit .nsl, .lit .nsl, .lit .nsl, .int .i64, .bool, .bool]
abbrev zS5 : List Go.Ab.CS := [.lit .nsl, .lit .nsl, .lit .nsl, .lit .nsl]
abbrev zT9 : List Go.Ab.PC := [.dat false (.int .i64), .dat false (.int .i64), .dat false (.sl (.int .i64))]
abbrev zAr : List Go.Ab.PC := [.dat false qZ, .dat false (.sl (.int .i64)), .dat false (.int .i64), .dat false (.sl (.int .i64))]
abbrev zGd : List Go.Ab.PC := [.dat true qZ, .dat true (.sl (.int .i64)), .dat true (.int .i64), .dat true (.sl (.int .i64))]
abbrev zQt : List Go.Ab.PC := [.int .i64, .dat false (.int .u8), .int .i64, .dat false (.int .u8), .int .i64, .int .i64, .int .i64, .bool, .bool, .int .i64]
abbrev zF0 : List Go.Ab.PC := [.int .i64, .dat false qZ, .dat false (.sl (.int .i64)), .dat false (.int .i64), .dat false (.sl (.int .i64)), .dat false (.int .i64), .dat false (.sl (.int .i64)), .dat false zN, .dat false (.int .i64), .int .i64, .bool]
abbrev zC5 : List Go.Ab.PC := [.int .i64, .dat false wE, .int .i64, .int .i64, .int .i64]
abbrev qH2 : List Go.Ab.PC := [.int .i64, .dat false wE, .int .i64, .int .i64, .int .i64, .int .i64, .dat false qZ, .dat false (.sl (.int .i64)), .dat false (.int .i64), .dat false (.sl (.int .i64)), .dat false (.int .i64), .dat false (.sl (.int .i64)), .dat false zN, .dat false (.int .i64), .int .i64, .bool, .int .i64, .dat false qU]
abbrev zLs : List Go.Ab.PC := [.int .i64, .dat true qZ, .dat true (.sl (.int .i64)), .dat true (.int .i64), .dat true (.sl (.int .i64)), .dat true (.int .i64), .dat true (.sl (.int .i64)), .dat true zN, .dat true (.int .i64), .int .i64, .bool]
abbrev zOl : List Go.Ab.PC := [.int .i64, .dat true wE, .int .i64, .int .i64, .int .i64]
abbrev zD1 : List Go.Ab.PC := [.int .i64, .int .i64, .int .i64]
abbrev vS : List Go.Ab.PC := [.int .i64, .int .i64, .int .i64, .int .i64, .int .i64, .int .i64, .int .i64]
abbrev zJ3 : List Go.Ab.PC := [.int .i64, .int .i64, .int .i64, .int .i64, .int .i64, .int .i64, .int .i64, .int .i64]
abbrev zCw : List Go.Ab.RC := [.fro (.int .u8)]
abbrev zEp : List Go.Ab.RC := [.fro (.sl (.int .u8))]
abbrev zBy : List Go.Ab.RC := [.fro qZ, .fro (.sl (.int .i64)), .fro (.int .i64), .fro (.sl (.int .i64))]
abbrev qQ : List Go.Ab.RC := [.int .i64]
abbrev zC6 : List Go.Ab.RC := [.int .i64, .fro qZ, .fro (.sl (.int .i64)), .fro (.int .i64), .fro (.sl (.int .i64)), .fro (.int .i64), .fro (.sl (.int .i64)), .fro zN, .fro (.int .i64), .int .i64, .bool]
abbrev yMa : List Go.Ab.RC := [.int .i64, .fro qZ, .fro (.sl (.int .i64)), .fro (.int .i64), .fro (.sl (.int .i64)), .fro (.int .i64), .fro (.sl (.int .i64)), .own zN, .fro (.int .i64), .int .i64, .bool]
abbrev vQ : List Go.Ab.RC := [.int .i64, .fro wE, .int .i64, .int .i64, .int .i64, .int .i64, .fro qZ, .fro (.sl (.int .i64)), .fro (.int .i64), .fro (.sl (.int .i64)), .fro (.int .i64), .fro (.sl (.int .i64)), .fro zN, .fro (.int .i64), .int .i64, .bool, .int .i64, .own qU]
abbrev zLl : List Go.Ab.RC := [.int .i64, .int .i64, .int .i64]
abbrev zCs : List Go.Ab.RC := [.int .i64, .int .i64, .int .i64, .int .i64, .int .i64, .int .i64, .int .i64]
abbrev zMc : List Go.Ab.RC := [.int .i64, .int .i64, .int .i64, .int .i64, .int .i64, .int .i64, .int .i64, .int .i64]
abbrev qQ7 : List Go.Ab.RC := [.int .i64, .int .i64, .int .i64, .int .i64, .int .i64, .int .i64, .int .i64, .int .i64, .int .i64, .int .i64, .int .i64, .int .i64, .int .i64, .int .i64, .fro qZ, .fro (.sl (.int .i64)), .fro (.int .i64), .fro (.sl (.int .i64))]
abbrev vF : List Go.Ab.RC := [.int .i64, .own (.int .u8), .int .i64, .own (.int .u8), .int .i64, .int .i64, .int .i64, .bool, .bool, .int .i64]
abbrev zX5 : List Go.Ab.RC := [.int .i64, .own qZ, .mat, .own (.int .i64), .mat, .own (.int .i64), .mat, .own zN, .own (.int .i64), .int .i64, .bool]
abbrev qV9 : List Go.Ab.RC := [.int .i64, .own wE, .int .i64, .int .i64, .int .i64, .int .i64, .own qZ, .mat, .own (.int .i64), .mat, .own (.int .i64), .mat, .own zN, .own (.int .i64), .int .i64, .bool, .int .i64, .own qU]
abbrev zXy : List Go.Ab.RC := [.link 0, .int .i64, .int .i64, .int .i64, .bool]
abbrev zGi : List Go.Ab.RC := [.link 1, .int .i64, .fro wE, .int .i64, .int .i64, .int .i64, .int .i64, .fro qZ, .fro (.sl (.int .i64)), .fro (.int .i64), .fro (.sl (.int .i64)), .fro (.int .i64), .fro (.sl (.int .i64)), .fro zN, .fro (.int .i64), .int .i64, .bool, .int .i64, .bool]
abbrev zKj : List Go.Ab.RC := [.link 1, .int .i64, .int .i64, .int .i64, .bool]
abbrev yD2 : List Go.Ab.RC := [.link 2, .int .i64, .fro wE, .int .i64, .int .i64, .int .i64, .int .i64, .fro qZ, .fro (.sl (.int .i64)), .fro (.int .i64), .fro (.sl (.int .i64)), .fro (.int .i64), .fro (.sl (.int .i64)), .fro zN, .fro (.int .i64), .int .i64, .bool, .int .i64, .bool]
abbrev zF4 : List Go.Ab.RC := [.link 2, .int .i64, .int .i64, .int .i64, .bool]
abbrev zEu : List Go.Ab.RC := [.own (.int .i64)]
abbrev qVf : List Go.Ab.RC := [.own (.sl qU), .own qU, .int .i64, .fro qZ, .fro (.sl (.int .i64)), .fro (.int .i64), .fro (.sl (.int .i64)), .fro (.int .i64), .fro (.sl (.int .i64)), .fro zN, .fro (.int .i64), .int .i64, .bool, .bool]
abbrev zU6 : List Go.Ab.XC := [.link 1, .p (.int .i64), .p (.dat true wE), .p (.int .i64), .p (.int .i64), .p (.int .i64), .p (.int .i64), .p (.dat true qZ), .p (.dat true (.sl (.int .i64))), .p (.dat true (.int .i64)), .p (.dat true (.sl (.int .i64))), .p (.dat true (.int .i64)), .p (.dat true (.sl (.int .i64))), .p (.dat true zN), .p (.dat true (.int .i64)), .p (.int .i64), .p (.bool), .p (.int .i64), .p (.bool)]
abbrev qJt : List Go.Ab.XC := [.link 1, .p (.int .i64), .p (.int .i64), .p (.int .i64), .p (.bool)]
abbrev zUa : List Go.Ab.XC := [.link 2, .p (.int .i64), .p (.int .i64), .p (.int .i64), .p (.bool)]
abbrev zBe : List Go.Ab.XC := [.p (.int .i64), .own (.int .u8), .p (.int .i64), .own (.int .u8), .p (.int .i64), .p (.int .i64), .p (.int .i64), .p (.bool), .p (.bool), .p (.int .i64)]
abbrev zGs : List Go.Ab.XC := [.p (.int .i64), .p (.dat true wE), .p (.int .i64), .p (.int .i64), .p (.int .i64), .p (.int .i64), .p (.dat true qZ), .p (.dat true (.sl (.int .i64))), .p (.dat true (.int .i64)), .p (.dat true (.sl (.int .i64))), .p (.dat true (.int .i64)), .p (.dat true (.sl (.int .i64))), .p (.dat true zN), .p (.dat true (.int .i64)), .p (.int .i64), .p (.bool), .p (.int .i64), .own qU]
abbrev zF5 : List Go.Ab.XC := [.p (.int .i64), .p (.dat true wE), .p (.int .i64), .p (.int .i64), .p (.int .i64), .p (.int .i64), .p (.dat true qZ), .p (.dat true (.sl (.int .i64))), .p (.dat true (.int .i64)), .p (.dat true (.sl (.int .i64))), .p (.dat true (.int .i64)), .p (.dat true (.sl (.int .i64))), .p (.dat true zN), .p (.dat true (.int .i64)), .p (.int .i64), .p (.bool), .p (.int .i64), .p (.nil)]
section
variable {A B C D E F G H I J K L M N O P Q R S U V W X Z a b Aa Ab Ac Ad Ae Af Ag Ah Ai Aj Ak Al Am An Ao Ap Aq Ar As At T Y : Type}
abbrev jC (x : A × B × C × D) (t : T) := (x.1, x.2.1, x.2.2.1, x.2.2.2, t)
abbrev jQ (x : A × B × C × D × E) (t : T) := (x.1, jC x.2 t)
abbrev zF3 (x : A × B × C × D × E × F) (t : T) := (x.1, jQ x.2 t)
abbrev zB6 (x : A × B × C × D × E × F × G) (t : T) := (x.1, zF3 x.2 t)
abbrev zKl (x : A × B × C × D × E × F × G × H) (t : T) := (x.1, zB6 x.2 t)
abbrev qMv (x : A × B × C × D × E × F × G × H × I) (t : T) := (x.1, zKl x.2 t)
abbrev zAj (x : A × B × C × D × E × F × G × H × I × J) (t : T) := (x.1, qMv x.2 t)
abbrev wH (x : A × B × C × D × E × F × G × H × I × J × K) (t : T) := (x.1, zAj x.2 t)
abbrev zRf (x : A × B × C × D × E × F × G × H × I × J × K × L) (t : T) := (x.1, wH x.2 t)
abbrev yRc (x : A × B × C × D × E × F × G × H × I × J × K × L × M) (t : T) := (x.1, zRf x.2 t)
abbrev qLk (x : A × B × C × D × E × F × G × H × I × J × K × L × M × N) (t : T) := (x.1, yRc x.2 t)
abbrev yTa (x : A × B × C × D × E × F × G × H × I × J × K × L × M × N × O) (t : T) := (x.1, qLk x.2 t)
abbrev yVf (x : A × B × C × D × E × F × G × H × I × J × K × L × M × N × O × P) (t : T) := (x.1, yTa x.2 t)
abbrev yY (x : A × B × C × D × E × F × G × H × I × J × K × L × M × N × O × P × Q) (t : T) := (x.1, yVf x.2 t)
abbrev wI (x : A × B × C × D × E × F × G × H × I × J × K × L × M × N × O × P × Q × R) (t : T) := (x.1, yY x.2 t)
abbrev yZo (x : A × B × C × D × E × F × G × H × I × J × K × L × M × N × O × P × Q × R × S) (t : T) := (x.1, wI x.2 t)
abbrev wS (x : A × B × C × D × E) := (x.1, x.2.1, x.2.2.1, x.2.2.2.1)
abbrev vE (x : A × B × C × D × E × F) := (x.1, wS x.2)
abbrev zIw (x : A × B × C × D × E × F × G) := (x.1, vE x.2)
abbrev jH (x : A × B × C × D × E × F × G × H) := (x.1, zIw x.2)
abbrev zCh (x : A × B × C × D × E × F × G × H × I) := (x.1, jH x.2)
abbrev qJo (x : A × B × C × D × E × F × G × H × I × J) := (x.1, zCh x.2)
abbrev wX (x : A × B × C × D × E × F × G × H × I × J × K) := (x.1, qJo x.2)
abbrev yZ (x : A × B × C × D × E × F × G × H × I × J × K × L) := (x.1, wX x.2)
abbrev zQ2 (x : A × B × C × D × E × F × G × H × I × J × K × L × M) := (x.1, yZ x.2)
abbrev yU4 (x : A × B × C × D × E × F × G × H × I × J × K × L × M × N) := (x.1, zQ2 x.2)
abbrev qNn (x : A × B × C × D × E × F × G × H × I × J × K × L × M × N × O) := (x.1, yU4 x.2)
abbrev yTk (x : A × B × C × D × E × F × G × H × I × J × K × L × M × N × O × P) := (x.1, qNn x.2)
abbrev vBv (x : A × B × C × D × E × F × G × H × I × J × K × L × M × N × O × P × Q) := (x.1, yTk x.2)
abbrev zBi (x : A × B × C × D × E × F × G × H × I × J × K × L × M × N × O × P × Q × R) := (x.1, vBv x.2)
abbrev jG (x : A × B × C × D × E × F × G × H × I × J × K × L × M × N × O × P × Q × R × S) := (x.1, zBi x.2)
abbrev vAf (x : A × B × C × D × E × F × G × H × I × J × K × L × M × N × O × P × Q × R × S × U) := (x.1, jG x.2)
abbrev jF (x : A × B × C × D × E) (t : T) := (x.1, x.2.1, x.2.2.1, x.2.2.2.1, t)
abbrev zE6 (x : A × B × C × D × E × F) (t : T) := (x.1, jF x.2 t)
abbrev zAl (x : A × B × C × D × E × F × G) (t : T) := (x.1, zE6 x.2 t)
abbrev zJi (x : A × B × C × D × E × F × G × H) (t : T) := (x.1, zAl x.2 t)
abbrev qYs (x : A × B × C × D × E × F × G × H × I) (t : T) := (x.1, zJi x.2 t)
abbrev qAb (x : A × B × C × D × E × F × G × H × I × J) (t : T) := (x.1, qYs x.2 t)
abbrev yO0 (x : A × B × C × D × E × F × G × H × I × J × K) (t : T) := (x.1, qAb x.2 t)
abbrev zGv (x : A × B × C × D × E × F × G × H × I × J × K × L) (t : T) := (x.1, yO0 x.2 t)
abbrev zDs (x : A × B × C × D × E × F × G × H × I × J × K × L × M) (t : T) := (x.1, zGv x.2 t)
abbrev vHs (x : A × B × C × D × E × F × G × H × I × J × K × L × M × N) (t : T) := (x.1, zDs x.2 t)
abbrev qIc (x : A × B × C × D × E × F × G × H × I × J × K × L × M × N × O) (t : T) := (x.1, vHs x.2 t)
abbrev yR5 (x : A × B × C × D × E × F × G × H × I × J × K × L × M × N × O × P) (t : T) := (x.1, qIc x.2 t)
abbrev yW5 (x : A × B × C × D × E × F × G × H × I × J × K × L × M × N × O × P × Q) (t : T) := (x.1, yR5 x.2 t)
abbrev qLd (x : A × B × C × D × E × F × G × H × I × J × K × L × M × N × O × P × Q × R) (t : T) := (x.1, yW5 x.2 t)
abbrev jK (f : A → B → C → D → Y) (x : A × B × C × D × E) : Y := f x.1 x.2.1 x.2.2.1 x.2.2.2.1
abbrev zEh (f : A → B → C → D → E → Y) (x : A × B × C × D × E × F) : Y := jK (f x.1) x.2
abbrev zEv (f : A → B → C → D → E → F → Y) (x : A × B × C × D × E × F × G) : Y := zEh (f x.1) x.2
abbrev zG8 (f : A → B → C → D → E → F → G → Y) (x : A × B × C × D × E × F × G × H) : Y := zEv (f x.1) x.2
abbrev zDf (f : A → B → C → D → E → F → G → H → Y) (x : A × B × C × D × E × F × G × H × I) : Y := zG8 (f x.1) x.2
abbrev qFn (f : A → B → C → D → E → F → G → H → I → Y) (x : A × B × C × D × E × F × G × H × I × J) : Y := zDf (f x.1) x.2
abbrev yTj (f : A → B → C → D → E → F → G → H → I → J → Y) (x : A × B × C × D × E × F × G × H × I × J × K) : Y := qFn (f x.1) x.2
abbrev zFr (f : A → B → C → D → E → F → G → H → I → J → K → Y) (x : A × B × C × D × E × F × G × H × I × J × K × L) : Y := yTj (f x.1) x.2
abbrev zV5 (f : A → B → C → D → E → F → G → H → I → J → K → L → Y) (x : A × B × C × D × E × F × G × H × I × J × K × L × M) : Y := zFr (f x.1) x.2
abbrev qFi (f : A → B → C → D → E → F → G → H → I → J → K → L → M → Y) (x : A × B × C × D × E × F × G × H × I × J × K × L × M × N) : Y := zV5 (f x.1) x.2
abbrev zPm (f : A → B → C → D → E → F → G → H → I → J → K → L → M → N → Y) (x : A × B × C × D × E × F × G × H × I × J × K × L × M × N × O) : Y := qFi (f x.1) x.2
abbrev yZ6 (f : A → B → C → D → E → F → G → H → I → J → K → L → M → N → O → Y) (x : A × B × C × D × E × F × G × H × I × J × K × L × M × N × O × P) : Y := zPm (f x.1) x.2
abbrev yBe (f : A → B → C → D → E → F → G → H → I → J → K → L → M → N → O → P → Y) (x : A × B × C × D × E × F × G × H × I × J × K × L × M × N × O × P × Q) : Y := yZ6 (f x.1) x.2
abbrev vCy (f : A → B → C → D → E → F → G → H → I → J → K → L → M → N → O → P → Q → Y) (x : A × B × C × D × E × F × G × H × I × J × K × L × M × N × O × P × Q × R) : Y := yBe (f x.1) x.2
abbrev yOo (f : A → B → C → D → E → F → G → H → I → J → K → L → M → N → O → P → Q → R → Y) (x : A × B × C × D × E × F × G × H × I × J × K × L × M × N × O × P × Q × R × S) : Y := vCy (f x.1) x.2
abbrev yTz (f : A → B → C → D → E → F → G → H → I → J → K → L → M → N → O → P → Q → R → S → Y) (x : A × B × C × D × E × F × G × H × I × J × K × L × M × N × O × P × Q × R × S × U) : Y := yOo (f x.1) x.2
abbrev qCp (x : A × B × C × D × E × F × G × H × I × J × K × L × M × N × O × P × Q) (t : T) := jC x.2.2.2.2.2.2.2.2.2.2.2.2.2 t
abbrev yJv (x : A × B × C × D × E × F) (t : T) := jC x.2.2 t
abbrev yT1 (x : A × B × C × D × E × F × G) (t : T) := jC x.2.2.2 t
abbrev qWc (x : A × B × C × D × E × F × G × H) (t : T) := jC x.2.2.2.2 t
abbrev vDg (x : A × B × C × D × E × F × G × H × I × J × K × L) (t : T) := jC x.2.2.2.2.2.2.2.2 t
abbrev yG4 (x : A × B × C × D × E × F × G × H × I × J × K × L × M × N × O × P × Q) (t : T) := jQ x.2.2.2.2.2.2.2.2.2.2.2.2 t
abbrev qJ0 (x : A × B × C × D × E × F × G × H × I × J × K × L × M × N × O × P × Q) (t : T) := zF3 x.2.2.2.2.2.2.2.2.2.2.2 t
abbrev vCn (x : A × B × C × D × E × F × G × H) (t : T) := zF3 x.2.2 t
abbrev qDk (x : A × B × C × D × E × F × G × H × I × J × K × L × M × N × O × P × Q) (t : T) := zB6 x.2.2.2.2.2.2.2.2.2.2 t
abbrev qF8 (x : A × B × C × D × E × F × G × H × I × J × K) (t : T) := zB6 x.2.2.2.2 t
abbrev ySq (x : A × B × C × D × E × F × G × H × I × J × K × L × M × N) (t : T) := zB6 x.2.2.2.2.2.2.2 t
abbrev yZv (x : A × B × C × D × E × F × G × H × I × J × K × L) (t : T) := wH x.2 t
abbrev zMd (x : A × B × C × D × E × F × G × H × I × J × K × L × M × N × O × P × Q × R) (t : T) := wH x.2.2.2.2.2.2.2 t
abbrev qG3 (x : A × B × C × D × E × F × G × H × I × J × K × L × M × N × O × P × Q × R × S) (t : T) := wI x.2 t
abbrev vCq (x : A × B × C × D × E × F × G × H × I × J × K × L × M × N × O × P × Q × R × S × U) := wS x.2.2.2.2.2.2.2.2.2.2.2.2.2.2.2
abbrev zX0 (x : A × B × C × D × E × F) := wS x.2
abbrev zSj (x : A × B × C × D × E × F × G × H × I × J × K × L × M × N × O × P × Q × R × S × U × V × W × X × Z × a) := wS x.2.2.2.2.2.2.2.2.2.2.2.2.2.2.2.2.2.2.2.2
abbrev zZ1 (x : A × B × C × D × E × F × G × H × I × J × K × L × M × N × O × P × Q × R × S × U × V × W × X × Z × a × b) := wS x.2.2.2.2.2.2.2.2.2.2.2.2.2.2.2.2.2.2.2.2.2
abbrev qD9 (x : A × B × C × D × E × F × G) := wS x.2.2
abbrev yPg (x : A × B × C × D × E × F × G × H × I × J × K × L × M × N × O × P × Q × R × S × U × V × W × X × Z × a × b × Aa × Ab × Ac × Ad × Ae × Af × Ag × Ah × Ai × Aj) := wS x.2.2.2.2.2.2.2.2.2.2.2.2.2.2.2.2.2.2.2.2.2.2.2.2.2.2.2.2.2.2.2
abbrev yT8 (x : A × B × C × D × E × F × G × H × I × J × K × L × M × N × O × P × Q × R × S × U × V × W × X × Z × a × b × Aa × Ab × Ac × Ad × Ae × Af × Ag × Ah × Ai × Aj × Ak) := wS x.2.2.2.2.2.2.2.2.2.2.2.2.2.2.2.2.2.2.2.2.2.2.2.2.2.2.2.2.2.2.2.2
abbrev qPo (x : A × B × C × D × E × F × G × H × I × J × K × L × M × N × O × P × Q × R × S × U × V × W × X × Z × a) := zIw x.2.2.2.2.2.2.2.2.2.2.2.2.2.2.2.2.2.2
abbrev zM5 (x : A × B × C × D × E × F × G × H × I × J × K × L × M × N × O × P × Q × R × S × U × V × W × X × Z × a × b) := jH x.2.2.2.2.2.2.2.2.2.2.2.2.2.2.2.2.2.2
abbrev zN7 (x : A × B × C × D × E × F × G × H × I) := jH x.2
abbrev qUk (x : A × B × C × D × E × F × G × H × I × J × K × L × M × N) := jH x.2.2.2.2.2.2
abbrev yZd (x : A × B × C × D × E × F × G × H × I × J × K × L × M × N × O) := jH x.2.2.2.2.2.2.2
abbrev qMl (x : A × B × C × D × E × F × G × H × I × J × K × L × M × N × O × P × Q × R × S × U × V × W × X × Z × a) := zCh x.2.2.2.2.2.2.2.2.2.2.2.2.2.2.2.2
abbrev zJw (x : A × B × C × D × E × F × G × H × I × J × K × L) := wX x.2
abbrev zX8 (x : A × B × C × D × E × F × G × H × I × J × K × L × M × N × O × P × Q × R × S × U × V × W × X × Z × a × b × Aa × Ab × Ac × Ad × Ae × Af × Ag × Ah × Ai) := wX x.2.2.2.2.2.2.2.2.2.2.2.2.2.2.2.2.2.2.2.2.2.2.2.2
abbrev qOx (x : A × B × C × D × E × F × G × H × I × J × K × L × M × N × O × P × Q × R × S × U × V × W × X × Z × a × b × Aa × Ab × Ac × Ad × Ae × Af × Ag × Ah × Ai × Aj) := wX x.2.2.2.2.2.2.2.2.2.2.2.2.2.2.2.2.2.2.2.2.2.2.2.2.2
abbrev qYn (x : A × B × C × D × E × F × G × H × I × J × K × L × M) := wX x.2.2
abbrev yUr (x : A × B × C × D × E × F × G × H × I × J × K × L × M × N × O × P × Q × R × S × U × V × W × X × Z × a × b × Aa × Ab × Ac × Ad × Ae × Af × Ag × Ah × Ai × Aj × Ak × Al × Am × An × Ao × Ap × Aq × Ar × As × At) := wX x.2.2.2.2.2.2.2.2.2.2.2.2.2.2.2.2.2.2.2.2.2.2.2.2.2.2.2.2.2.2.2.2.2.2.2
abbrev qZ3 (x : A × B × C × D × E × F × G × H × I × J × K × L × M × N × O) := wX x.2.2.2.2
abbrev zXf (x : A × B × C × D × E × F × G × H × I × J × K × L × M × N × O × P) := wX x.2.2.2.2.2
abbrev zZv (x : A × B × C × D × E × F × G × H × I × J × K × L × M × N × O × P × Q) := wX x.2.2.2.2.2.2
abbrev zFy (x : A × B × C × D × E × F × G × H × I × J × K × L × M × N × O × P × Q) := yZ x.2.2.2.2.2
abbrev vF9 (x : A × B × C × D × E × F × G × H × I × J × K × L × M × N × O × P × Q × R × S) := yZ x.2.2.2.2.2.2.2
abbrev yT3 (x : A × B × C × D × E × F × G × H × I × J × K × L × M × N × O × P × Q × R × S × U × V × W × X × Z × a × b × Aa × Ab × Ac × Ad × Ae) := jG x.2.2.2.2.2.2.2.2.2.2.2.2
abbrev vA9 (x : A × B × C × D × E × F × G × H × I × J × K × L × M × N × O × P × Q × R × S × U × V × W × X × Z × a × b × Aa × Ab × Ac × Ad × Ae × Af) := jG x.2.2.2.2.2.2.2.2.2.2.2.2.2
abbrev zAq (x : A × B × C × D × E × F × G × H × I × J × K × L × M × N × O × P × Q × R × S × U) := jG x.2
abbrev qIh (x : A × B × C × D × E × F × G × H × I × J × K × L × M × N × O × P × Q × R × S × U × V) := jG x.2.2
abbrev zXo (x : A × B × C × D × E × F × G × H × I × J × K × L × M × N × O) (t : T) := jF x.2.2.2.2.2.2.2.2.2.2 t
abbrev zC8 (x : A × B × C × D × E × F) (t : T) := jF x.2 t
abbrev qFo (x : A × B × C × D × E × F × G) (t : T) := jF x.2.2 t
abbrev yQ5 (x : A × B × C × D × E × F × G × H × I × J) (t : T) := jF x.2.2.2.2.2 t
abbrev zLy (x : A × B × C × D × E × F × G × H × I × J × K) (t : T) := zAl x.2.2.2.2 t
abbrev vHh (x : A × B × C × D × E × F × G × H × I) (t : T) := zJi x.2 t
abbrev vFj (x : A × B × C × D × E × F × G × H × I × J × K × L × M) (t : T) := qYs x.2.2.2.2 t
abbrev yYy (x : A × B × C × D × E × F × G × H × I × J × K × L × M × N × O × P × Q) (t : T) := zGv x.2.2.2.2.2 t
abbrev yOp (x : A × B × C × D × E × F × G × H × I × J × K × L × M × N × O × P × Q × R × S × U × V) (t : T) := qIc x.2.2.2.2.2.2 t
abbrev zSx (x : A × B × C × D × E × F × G × H × I × J × K × L × M × N × O × P × Q × R × S) (t : T) := qLd x.2 t
end
def zP2 (k : Nat) (a0 : Int) : Option yW :=
 bif decide ((zAm .i64 a0 3) = 1) then some (4, [(100, 1000), (7, 0)], 12, 20, 100)
 else bif decide ((zAm .i64 a0 3) = 2) then some (3, [], 20, 20, 4)
 else bif decide ((zAm .i64 a0 3) = 3) then some (3, [(100, 1000), (7, 0)], 0, 6, 1)
 else some (3, [(100, 1000), (7, 0)], 12, 20, 4)
def qRu (k : Nat) (a0 : Int) : Option (vB ⊕ Unit) :=
 bif decide (a0 < 0) then some (.inr ())
 else bif decide (a0 > 200000) then some (.inr ())
 else some (.inl (a0, [], 0, [], 0, 0, 0, false, false, 0))
def zEr (k : Nat) (a0 a1 a2 : Int) : Option Bool :=
 bif decide (a0 ≥ a1) then some (decide (a0 ≤ a2))
 else some false
def yDi (k : Nat) (a0 : vX) : Option Bool :=
 (zEr k a0.1 0 1048576).bind fun x0 =>
 bif !x0 then some true
 else (zEr k a0.2 0 10000).bind fun x1 =>
 some (!x1)
abbrev qCl : Type := List vX → Int → Int → Option (Unit ⊕ Int)
def yKz (k : Nat) (rec : qCl) (s0 : List vX) (s7 s8 : Int) : Option (Unit ⊕ Int) :=
 bif decide (s8 < s7) then (bif zE s8 s0.length then ((yDi k (s0.getD s8.toNat (0, 0))).bind fun x0 =>
   bif x0 then some (.inr s8)
   else rec s0 s7 (zC (s8 + 1)))
  else none)
 else some (.inl ())
def qK3 (k : Nat) : Nat → qCl := vG (fun _ _ _ => none) (yKz k)
def yDu (k : Nat) (a0 : List vX) : Option Int :=
 (qK3 k k a0 (a0.length : Int) 0).bind fun z =>
 match z with
 | .inl z1 => some (-1)
 | .inr z2 => some z2
def yB8 (k : Nat) (a0 : List vX) : Option Bool :=
 (yDu k a0).bind fun x0 =>
 some (decide (x0 ≥ 0))
def qMb (k : Nat) (a0 : yW) : Option Bool :=
 (zEr k a0.1 1 6).bind fun x0 =>
 bif x0 then ((zEr k a0.2.2.2.1 1 1048576).bind fun x1 =>
  bif x1 then ((zEr k a0.2.2.1 0 a0.2.2.2.1).bind fun x2 =>
   bif x2 then ((zEr k a0.2.2.2.2 1 1048576).bind fun x3 =>
    bif decide ((a0.2.1.length : Int) ≤ 3) then (bif x3 then ((yB8 k a0.2.1).bind fun x4 =>
      some (!x4))
     else some false)
    else some false)
   else bif decide ((a0.2.1.length : Int) ≤ 3) then some false
   else some false)
  else bif decide ((a0.2.1.length : Int) ≤ 3) then some false
  else some false)
 else (zEr k a0.2.2.2.1 1 1048576).bind fun x5 =>
 bif x5 then ((zEr k a0.2.2.1 0 a0.2.2.2.1).bind fun x6 =>
  bif x6 then ((zEr k a0.2.2.2.2 1 1048576).bind fun x7 =>
   some false)
  else some false)
 else some false
def zVf (k : Nat) (a0 : Int) : Option Bool :=
 bif decide (a0 ≥ 0) then some (decide (a0 < 2))
 else some false
def qFt (k : Nat) (a0 : List Int) : Option (List Int) :=
 bif zY (0 + a0.length) 1 then some a0
 else none
def qPz (k : Nat) (a0 : vB) (a1 : Int) : Option (List Int) :=
 (zVf k a1).bind fun x0 =>
 bif !x0 then some []
 else bif decide (a1 = 0) then ((qFt k a0.2.1).bind fun x1 =>
  some x1)
 else bif decide (a1 = 1) then ((qFt k a0.2.2.2.1).bind fun x2 =>
  some x2)
 else none
abbrev zT3 : Type := (List Int) × (List (List Int))
abbrev qBr : Type := List Int → List (List Int) → Option zT3
def yFe (k : Nat) (rec : qBr) (s0 : List Int) (r0 : List (List Int)) : Option zT3 :=
 bif decide ((s0.length : Int) ≥ 2) then (bif zE 0 s0.length then (bif zE 1 s0.length then (bif decide ((bor .i64 (shl .i64 (zC ((s0.getD 0 0))) 8) (zC ((s0.getD 1 0)))) > 60000) then some (s0, r0)
    else bif decide ((bor .i64 (shl .i64 (zC ((s0.getD 0 0))) 8) (zC ((s0.getD 1 0)))) > (zC ((s0.length : Int) - 2))) then some (s0, r0)
    else bif (decide (2 ≤ (zC (2 + (bor .i64 (shl .i64 (zC ((s0.getD 0 0))) 8) (zC ((s0.getD 1 0)))))))) && (decide ((zC (2 + (bor .i64 (shl .i64 (zC ((s0.getD 0 0))) 8) (zC ((s0.getD 1 0)))))) ≤ (s0.length : Int))) then (bif zY (0 + (qY s0 2 ((zC (2 + (bor .i64 (shl .i64 (zC ((s0.getD 0 0))) 8) (zC ((s0.getD 1 0)))))).toNat - 2)).length) 1 then (let y0 : List Int := (qY s0 2 ((zC (2 + (bor .i64 (shl .i64 (zC ((s0.getD 0 0))) 8) (zC ((s0.getD 1 0)))))).toNat - 2))
      bif zY (r0.length + 1) 24 then (bif (decide (0 ≤ (zC (2 + (bor .i64 (shl .i64 (zC ((s0.getD 0 0))) 8) (zC ((s0.getD 1 0)))))))) && (decide ((zC (2 + (bor .i64 (shl .i64 (zC ((s0.getD 0 0))) 8) (zC ((s0.getD 1 0)))))) ≤ (s0.length : Int))) then (rec (List.drop (zC (2 + (bor .i64 (shl .i64 (zC ((s0.getD 0 0))) 8) (zC ((s0.getD 1 0)))))).toNat s0) (r0 ++ [y0]))
       else none)
      else none)
     else none)
    else none)
   else none)
  else none)
 else some (s0, r0)
def qIk (k : Nat) : Nat → qBr := vG (fun _ _ => none) (yFe k)
def qB9 (k : Nat) (a0 : List Int) : Option ((List (List Int)) × Int) :=
 (qIk k k a0 []).bind fun z =>
 some (z.2, (z.1.length : Int))
abbrev zWm : Type := (List Int) × Int × (List Int)
abbrev qMu : Type := List Int → Int → List Int → Int → Int → List Int → Option zWm
def qX3 (k : Nat) (rec : qMu) (s0 : List Int) (s5 : Int) (s16 : List Int) (s17 s18 : Int) (r0 : List Int) : Option zWm :=
 bif decide (s18 < s17) then (bif zE s18 s16.length then (rec s0 (bor .u64 (shl .u64 s5 8) (IntKind.wrap .u64 ((s16.getD s18.toNat 0)))) s16 s17 (zC (s18 + 1)) r0)
  else none)
 else some (s0, s5, r0)
def qFr (k : Nat) : Nat → qMu := vG (fun _ _ _ _ _ _ => none) (qX3 k)
def qXp (k : Nat) (rec : List Int → List Int → Option (List Int)) (s0 r0 : List Int) : Option (List Int) :=
 bif decide ((s0.length : Int) > 0) then (bif decide (8 ≤ (s0.length : Int)) then ((qFr k k s0 0 (List.take 8 s0) ((List.take 8 s0).length : Int) 0 r0).bind fun z =>
   bif zY (z.2.2.length + 1) 8 then (bif decide (8 ≤ (z.1.length : Int)) then (rec (List.drop 8 z.1) (z.2.2 ++ [(zC (z.2.1))]))
    else none)
   else none)
  else none)
 else some r0
def qJz (k : Nat) : Nat → List Int → List Int → Option (List Int) := vG (fun _ _ => none) (qXp k)
def zHj (k : Nat) (a0 : List Int) : Option ((List Int) × Int) :=
 bif !(decide ((Int.tmod (a0.length : Int) 8) = 0)) then some ([], 2)
 else (qJz k k a0 []).bind fun z1 =>
 some (z1, 0)
def zYv (k : Nat) (a0 : vB) (a1 : Int) : Option (Int × (List Int) × (List (List Int))) :=
 (qPz k a0 a1).bind fun x0 =>
 (qB9 k x0).bind fun x1 =>
 bif decide ((x1.1.length : Int) = 0) then some (0, [], [])
 else bif zE 0 x1.1.length then (bif decide (((x1.1.getD 0 []).length : Int) < 8) then some (0, [], [])
  else bif zE 0 x1.1.length then (bif decide (8 ≤ ((x1.1.getD 0 []).length : Int)) then ((zHj k (List.take 8 (x1.1.getD 0 []))).bind fun x2 =>
    bif zE 0 x2.1.length then (bif decide ((x2.1.getD 0 0) < 1) then some (0, [], [])
     else bif zE 0 x2.1.length then (bif decide ((x2.1.getD 0 0) > 4611686018427387904) then some (0, [], [])
      else bif zE 0 x2.1.length then (bif zE 0 x1.1.length then (bif decide (8 ≤ ((x1.1.getD 0 []).length : Int)) then (bif decide (1 ≤ (x1.1.length : Int)) then some ((x2.1.getD 0 0), (List.drop 8 (x1.1.getD 0 [])), (qY x1.1 1 (x1.1.length - 1)))
         else none)
        else none)
       else none)
      else none)
     else none)
    else none)
   else none)
  else none)
 else none
def qEs (k : Nat) (a0 : vB) : Option (Int × Int × (List Int) × (List (List Int)) × Bool) :=
 (zYv k a0 0).bind fun x0 =>
 bif decide (x0.1 > 0) then ((zYv k a0 1).bind fun x1 =>
  bif decide (x1.1 > x0.1) then some (x1.1, 1, x1.2.1, x1.2.2, true)
  else some (x0.1, 0, x0.2.1, x0.2.2, true))
 else (zYv k a0 1).bind fun x2 =>
 bif decide (x2.1 > 0) then some (x2.1, 1, x2.2.1, x2.2.2, true)
 else some (0, 0, [], [], false)
def zQg (k : Nat) (a0 : Int) : Option Bool :=
 bif decide (a0 ≥ 0) then some (decide (a0 ≤ 6))
 else some false
abbrev qGq : Type := Int → Int → Int → List Int → Option (List Int)
def zJj (k : Nat) (rec : qGq) (s1 s13 s14 : Int) (r0 : List Int) : Option (List Int) :=
 bif decide (s14 < s13) then (bif zE s14 r0.length then (rec s1 s13 (zC (s14 + 1)) (r0.set s14.toNat s1))
  else none)
 else some r0
def zN5 (k : Nat) : Nat → qGq
 | 0, _, _, _, _ => none
 | n + 1, s1, s13, s14, r0 => zJj k (zN5 k n) s1 s13 s14 r0
def zH6 (k : Nat) (a0 a1 : Int) : Option (List Int) :=
 (zQg k a0).bind fun x0 =>
 bif !x0 then some []
 else bif zHb a0 a0 8 then ((zN5 k k a1 ((List.replicate a0.toNat (0 : Int)).length : Int) 0 (List.replicate a0.toNat (0 : Int))).bind fun z =>
  some z)
 else none
abbrev qNv : Type := Int → Int → Int → Int → List (List Int) → Option (List (List Int))
def zMg (k : Nat) (rec : qNv) (s0 s1 s13 s14 : Int) (m0 : List (List Int)) : Option (List (List Int)) :=
 bif decide (s14 < s13) then ((zH6 k s0 s1).bind fun x1 =>
  bif zE s14 m0.length then (rec s0 s1 s13 (zC (s14 + 1)) (m0.set s14.toNat x1))
  else none)
 else some m0
def zRr (k : Nat) : Nat → qNv
 | 0, _, _, _, _, _ => none
 | n + 1, s0, s1, s13, s14, m0 => zMg k (zRr k n) s0 s1 s13 s14 m0
def zJ1 (k : Nat) (a0 a1 : Int) : Option (List (List Int)) :=
 (zQg k a0).bind fun x0 =>
 bif !x0 then some []
 else bif zHb a0 a0 24 then ((zRr k k a0 a1 ((List.replicate a0.toNat ([] : List Int)).length : Int) 0 (List.replicate a0.toNat ([] : List Int))).bind fun z =>
  some z)
 else none
abbrev zTw : Type := Int × yW × jM × jM × (List zQ) × (List (List Int)) × (List Int) × (List (List Int)) × (List Int)
abbrev qNo : Type := Int → List vX → Int → Int → yW → jM → jM → List zQ → List (List Int) → List Int → List (List Int) → List Int → Option zTw
def yMo (k : Nat) (rec : qNo) (s3 : Int) (s20 : List vX) (s21 s22 : Int) (b0 : yW) (b1 b2 : jM) (r3 : List zQ) (m4 : List (List Int)) (r5 : List Int) (m6 : List (List Int)) (r7 : List Int) : Option zTw :=
 bif decide (s22 < s21) then (bif zE s22 s20.length then (bif zY (r7.length + 1) 8 then (rec s3 s20 s21 (zC (s22 + 1)) b0 b1 b2 r3 m4 r5 m6 (r7 ++ [(s20.getD s22.toNat (0, 0)).1]))
   else none)
  else none)
 else some (s3, b0, b1, b2, r3, m4, r5, m6, r7)
def qOw (k : Nat) : Nat → qNo := vG (fun _ _ _ _ _ _ _ _ _ _ _ _ => none) (yMo k)
abbrev zTj : Type := jM × jM × (List zQ) × (List (List Int)) × (List Int) × (List (List Int)) × (List Int) × (List (List Int))
abbrev qKu : Type := Int → Int → yW → jM → jM → List zQ → List (List Int) → List Int → List (List Int) → List Int → List (List Int) → Option zTj
def yG2 (k : Nat) (rec : qKu) (s34 s35 : Int) (b0 : yW) (b1 b2 : jM) (r3 : List zQ) (m4 : List (List Int)) (r5 : List Int) (m6 : List (List Int)) (r7 : List Int) (m8 : List (List Int)) : Option zTj :=
 bif decide (s35 < s34) then (bif zHb (b0.2.1.length : Int) (b0.2.1.length : Int) 8 then (bif zY (m8.length + 1) 24 then (rec s34 (zC (s35 + 1)) b0 b1 b2 r3 m4 r5 m6 r7 (m8 ++ [(List.replicate b0.2.1.length (0 : Int))]))
   else none)
  else none)
 else some (b1, b2, r3, m4, r5, m6, r7, m8)
def qEk (k : Nat) : Nat → qKu := vG (fun _ _ _ _ _ _ _ _ _ _ _ => none) (yG2 k)
def zDd (k : Nat) (a0 : yW) : Option vC :=
 bif zHb a0.1 a0.1 24 then ((zJ1 k a0.1 (-1)).bind fun x0 =>
  (zH6 k a0.1 (-1)).bind fun x1 =>
  (zJ1 k a0.1 0).bind fun x2 =>
  (qOw k k a0.1 a0.2.1 (a0.2.1.length : Int) 0 a0 (0, 0, false) (0, 0, false) (List.replicate a0.1.toNat ((0, 0, 0) : Int × Int × Int)) x0 x1 x2 []).bind fun z =>
  (qEk k k z.1 0 z.2.1 z.2.2.1 z.2.2.2.1 z.2.2.2.2.1 z.2.2.2.2.2.1 z.2.2.2.2.2.2.1 z.2.2.2.2.2.2.2.1 z.2.2.2.2.2.2.2.2 []).bind fun z1 =>
  some (z1.2.1.1, (vCn z1 ([], [], z1.2.1.2))))
 else none
def qW3 (k : Nat) (a0 : Bool) : Option Int :=
 bif a0 then some 1
 else some 0
abbrev zXc : Type := (List Int) × Int × Int × (List Int)
abbrev qMe : Type := Int → Int → List Int → Int → Int → List Int → Option zXc
def yCs (k : Nat) (rec : qMe) (s5 s6 : Int) (s11 : List Int) (s12 s13 : Int) (r0 : List Int) : Option zXc :=
 bif decide (s6 ≥ 0) then (bif !(decide ((zC (8 * s6)) < 0)) then (bif zY (r0.length + 1) 1 then (rec s5 (zC (s6 - 1)) s11 s12 s13 (r0 ++ [(IntKind.wrap .u8 ((shr .i64 s5 (zC (8 * s6)))))]))
   else none)
  else none)
 else some (s11, s12, s13, r0)
def qB2 (k : Nat) : Nat → qMe := vG (fun _ _ _ _ _ _ => none) (yCs k)
abbrev qOv : Type := List Int → Int → Int → List Int → Option (List Int)
def qS6 (k : Nat) (rec : qOv) (s11 : List Int) (s12 s13 : Int) (r0 : List Int) : Option (List Int) :=
 bif decide (s13 < s12) then (bif zE s13 s11.length then ((qB2 k k (s11.getD s13.toNat 0) 7 s11 s12 s13 r0).bind fun z =>
   rec z.1 z.2.1 (zC (z.2.2.1 + 1)) z.2.2.2)
  else none)
 else some r0
def qDj (k : Nat) : Nat → qOv := vG (fun _ _ _ _ => none) (qS6 k)
def zMf (k : Nat) (a0 : List Int) : Option (List Int) :=
 bif zHb 0 (zC (8 * (a0.length : Int))) 1 then ((qDj k k a0 (a0.length : Int) 0 []).bind fun z1 =>
  some z1)
 else none
def yKw (k : Nat) (a0 : List Int) : Option (List Int) :=
 (zMf k [(a0.length : Int)]).bind fun x0 =>
 (zMf k a0).bind fun x1 =>
 bif zY (x0.length + x1.length) 1 then some (x0 ++ x1)
 else none
abbrev qFe : Type := List (List Int) → Int → Int → List Int → Option (List Int)
def yN5 (k : Nat) (rec : qFe) (s6 : List (List Int)) (s7 s8 : Int) (r0 : List Int) : Option (List Int) :=
 bif decide (s8 < s7) then (bif zE s8 s6.length then ((yKw k (s6.getD s8.toNat [])).bind fun x0 =>
   bif zY (r0.length + x0.length) 1 then (rec s6 s7 (zC (s8 + 1)) (r0 ++ x0))
   else none)
  else none)
 else some r0
def qD3 (k : Nat) : Nat → qFe := vG (fun _ _ _ _ => none) (yN5 k)
def yI9 (k : Nat) (a0 : List (List Int)) : Option (List Int) :=
 (qD3 k k a0 (a0.length : Int) 0 []).bind fun z =>
 some z
abbrev zUp : Type := vC × zOb × (List (List Int))
abbrev qD6 : Type := List zQ → Int → Int → vC → zOb → List (List Int) → Option zUp
def qWw (k : Nat) (rec : qD6) (s39 : List zQ) (s40 s41 : Int) (b0 : vC) (b1 : zOb) (r2 : List (List Int)) : Option zUp :=
 bif decide (s41 < s40) then (bif zE s41 s39.length then (bif zY (r2.length + 1) 24 then (let y0 : List (List Int) := (r2 ++ [[(s39.getD s41.toNat (0, 0, 0)).1, (s39.getD s41.toNat (0, 0, 0)).2.1, (s39.getD s41.toNat (0, 0, 0)).2.2]])
    rec s39 s40 (zC (s41 + 1)) b0 b1 y0)
   else none)
  else none)
 else some (b0, b1, r2)
def qGf (k : Nat) : Nat → qD6 := vG (fun _ _ _ _ _ _ => none) (qWw k)
abbrev zT1 : Type := vC × (List (List Int))
abbrev qFb : Type := List zF → Int → Int → vC → List (List Int) → Option zT1
def yJ7 (k : Nat) (rec : qFb) (s79 : List zF) (s80 s81 : Int) (b0 : vC) (r1 : List (List Int)) : Option zT1 :=
 bif decide (s81 < s80) then (bif zE s81 s79.length then (bif zY (r1.length + 1) 24 then (let y3 : List (List Int) := (r1 ++ [[(s79.getD s81.toNat (0, 0, 0, 0, 0, 0, 0)).1, (s79.getD s81.toNat (0, 0, 0, 0, 0, 0, 0)).2.1, (s79.getD s81.toNat (0, 0, 0, 0, 0, 0, 0)).2.2.1, (s79.getD s81.toNat (0, 0, 0, 0, 0, 0, 0)).2.2.2.1, (s79.getD s81.toNat (0, 0, 0, 0, 0, 0, 0)).2.2.2.2.1, (s79.getD s81.toNat (0, 0, 0, 0, 0, 0, 0)).2.2.2.2.2.1, (s79.getD s81.toNat (0, 0, 0, 0, 0, 0, 0)).2.2.2.2.2.2]])
    rec s79 s80 (zC (s81 + 1)) b0 y3)
   else none)
  else none)
 else some (b0, r1)
def qLa (k : Nat) : Nat → qFb := vG (fun _ _ _ _ _ => none) (yJ7 k)
def zCx (k : Nat) (a0 : vC) : Option (List Int) :=
 (qW3 k a0.2.2.2.2.2.2.2.2.2.2).bind fun x0 =>
 (qGf k k a0.2.1 (a0.2.1.length : Int) 0 a0 (zX0 a0) [[a0.1, a0.2.2.2.2.2.2.2.2.2.1, x0, (a0.2.1.length : Int), (a0.2.2.1.length : Int), (a0.2.2.2.1.length : Int), (a0.2.2.2.2.1.length : Int), (a0.2.2.2.2.2.2.1.length : Int), (a0.2.2.2.2.2.2.2.1.length : Int)]]).bind fun z =>
 bif zY (z.2.2.length + z.2.1.2.1.length) 24 then (bif zY ((z.2.2 ++ z.2.1.2.1).length + 1) 24 then (let y1 : List (List Int) := ((z.2.2 ++ z.2.1.2.1) ++ [z.2.1.2.2.1])
   bif zY (y1.length + z.2.1.2.2.2.length) 24 then (bif zY ((y1 ++ z.2.1.2.2.2).length + 1) 24 then (let y2 : List (List Int) := ((y1 ++ z.2.1.2.2.2) ++ [z.1.2.2.2.2.2.1])
     bif zY (y2.length + z.1.2.2.2.2.2.2.1.length) 24 then ((qLa k k z.1.2.2.2.2.2.2.2.1 (z.1.2.2.2.2.2.2.2.1.length : Int) 0 z.1 (y2 ++ z.1.2.2.2.2.2.2.1)).bind fun z1 =>
      bif zY (z1.2.length + 1) 24 then (let y4 : List (List Int) := (z1.2 ++ [z1.1.2.2.2.2.2.2.2.2.1])
       (yI9 k y4).bind fun x1 =>
       some x1)
      else none)
     else none)
    else none)
   else none)
  else none)
 else none
def qMg (k : Nat) (a0 : List Int) : Option K0q :=
 bif decide ((a0.length : Int) > 60000) then some ([], false)
 else bif zY (2 + a0.length) 1 then some (([(IntKind.wrap .u8 ((shr .i64 (a0.length : Int) 8))), (IntKind.wrap .u8 ((a0.length : Int)))] ++ a0), true)
 else none
def yL7 (k : Nat) (a0 : vB) : Option Int :=
 some a0.1
def zW4 (k : Nat) (a0 : vB) : Option Bool :=
 some a0.2.2.2.2.2.2.2.2.1
def zO3 (k : Nat) (a0 : vB) : Option (Bool × vB) :=
 bif !a0.2.2.2.2.2.2.2.1 then some (false, (qAb a0 (zC (a0.2.2.2.2.2.2.2.2.2 + 1))))
 else bif decide (a0.2.2.2.2.2.2.2.2.2 < a0.2.2.2.2.2.1) then some (false, (qAb a0 (zC (a0.2.2.2.2.2.2.2.2.2 + 1))))
 else bif (decide (0 ≤ (zC (a0.2.2.1 + (vZ true (vZ false a0.2.2.2.2.2.2.1 0) (zC ((a0.2.1.length : Int) - a0.2.2.1))))))) && (decide ((zC (a0.2.2.1 + (vZ true (vZ false a0.2.2.2.2.2.2.1 0) (zC ((a0.2.1.length : Int) - a0.2.2.1))))) ≤ (a0.2.1.length : Int))) then (bif (decide (0 ≤ (zC (a0.2.2.2.2.1 + (vZ true (zC ((vZ false a0.2.2.2.2.2.2.1 0) - (vZ true (vZ false a0.2.2.2.2.2.2.1 0) (zC ((a0.2.1.length : Int) - a0.2.2.1))))) (zC ((a0.2.2.2.1.length : Int) - a0.2.2.2.2.1))))))) && (decide ((zC (a0.2.2.2.2.1 + (vZ true (zC ((vZ false a0.2.2.2.2.2.2.1 0) - (vZ true (vZ false a0.2.2.2.2.2.2.1 0) (zC ((a0.2.1.length : Int) - a0.2.2.1))))) (zC ((a0.2.2.2.1.length : Int) - a0.2.2.2.2.1))))) ≤ (a0.2.2.2.1.length : Int))) then some (true, a0.1, (List.take ((zC (a0.2.2.1 + (vZ true (vZ false a0.2.2.2.2.2.2.1 0) (zC ((a0.2.1.length : Int) - a0.2.2.1))))).toNat - 0) a0.2.1), (zC (a0.2.2.1 + (vZ true (vZ false a0.2.2.2.2.2.2.1 0) (zC ((a0.2.1.length : Int) - a0.2.2.1))))), (List.take ((zC (a0.2.2.2.2.1 + (vZ true (zC ((vZ false a0.2.2.2.2.2.2.1 0) - (vZ true (vZ false a0.2.2.2.2.2.2.1 0) (zC ((a0.2.1.length : Int) - a0.2.2.1))))) (zC ((a0.2.2.2.1.length : Int) - a0.2.2.2.2.1))))).toNat - 0) a0.2.2.2.1), (zC (a0.2.2.2.2.1 + (vZ true (zC ((vZ false a0.2.2.2.2.2.2.1 0) - (vZ true (vZ false a0.2.2.2.2.2.2.1 0) (zC ((a0.2.1.length : Int) - a0.2.2.1))))) (zC ((a0.2.2.2.1.length : Int) - a0.2.2.2.2.1))))), a0.2.2.2.2.2.1, a0.2.2.2.2.2.2.1, a0.2.2.2.2.2.2.2.1, true, a0.2.2.2.2.2.2.2.2.2)
  else none)
 else none
def qVw (k : Nat) (a0 : vB) (a1 : Int) : Option (Int × vB) :=
 (zW4 k a0).bind fun x0 =>
 bif x0 then some (11, a0)
 else (zVf k a1).bind fun x1 =>
 bif !x1 then some (1, a0)
 else (zO3 k a0).bind fun x2 =>
 bif x2.1 then some (11, x2.2)
 else bif decide (a1 = 0) then (bif decide (a1 = 0) then some (0, x2.2.1, [], 0, x2.2.2.2.2)
  else bif decide (a1 = 1) then some (0, x2.2.1, [], x2.2.2.2.1, x2.2.2.2.2.1, 0, x2.2.2.2.2.2.2)
  else none)
 else bif decide (a1 = 1) then (bif decide (a1 = 0) then some (0, x2.2.1, x2.2.2.1, 0, [], x2.2.2.2.2.2)
  else bif decide (a1 = 1) then some (0, x2.2.1, x2.2.2.1, x2.2.2.2.1, [], 0, x2.2.2.2.2.2.2)
  else none)
 else none
def qJm (k : Nat) (a0 : vB) (a1 : Int) (a2 : List Int) : Option (Int × vB) :=
 (zW4 k a0).bind fun x0 =>
 bif x0 then some (11, a0)
 else (zVf k a1).bind fun x1 =>
 bif !x1 then some (1, a0)
 else bif decide (a1 = 0) then (bif decide ((a2.length : Int) > (zC (a0.1 - (a0.2.1.length : Int)))) then some (3, a0)
  else (zO3 k a0).bind fun x2 =>
  bif x2.1 then some (11, x2.2)
  else bif decide (a1 = 0) then (bif zY (x2.2.2.1.length + a2.length) 1 then some (0, x2.2.1, (x2.2.2.1 ++ a2), x2.2.2.2)
   else none)
  else bif decide (a1 = 1) then (bif zY (x2.2.2.2.2.1.length + a2.length) 1 then some (0, x2.2.1, x2.2.2.1, x2.2.2.2.1, (x2.2.2.2.2.1 ++ a2), x2.2.2.2.2.2)
   else none)
  else none)
 else bif decide (a1 = 1) then (bif decide ((a2.length : Int) > (zC (a0.1 - (a0.2.2.2.1.length : Int)))) then some (3, a0)
  else (zO3 k a0).bind fun x3 =>
  bif x3.1 then some (11, x3.2)
  else bif decide (a1 = 0) then (bif zY (x3.2.2.1.length + a2.length) 1 then some (0, x3.2.1, (x3.2.2.1 ++ a2), x3.2.2.2)
   else none)
  else bif decide (a1 = 1) then (bif zY (x3.2.2.2.2.1.length + a2.length) 1 then some (0, x3.2.1, x3.2.2.1, x3.2.2.2.1, (x3.2.2.2.2.1 ++ a2), x3.2.2.2.2.2)
   else none)
  else none)
 else none
def qN5 (k : Nat) (a0 : vB) : Option (Int × vB) :=
 (zW4 k a0).bind fun x0 =>
 bif x0 then some (11, a0)
 else (zO3 k a0).bind fun x1 =>
 bif x1.1 then some (11, x1.2)
 else some (0, x1.2.1, x1.2.2.1, (x1.2.2.1.length : Int), x1.2.2.2.2.1, (x1.2.2.2.2.1.length : Int), x1.2.2.2.2.2.2)
def qF4 (k : Nat) (a0 : vB) (a1 a2 : Int) (a3 : List Int) : Option (Int × vB) :=
 (zMf k [a2]).bind fun x0 =>
 bif zY (x0.length + a3.length) 1 then ((qMg k (x0 ++ a3)).bind fun x1 =>
  bif !x1.2 then some (10, a0)
  else bif decide (a2 > 4611686018427387904) then some (10, a0)
  else (yL7 k a0).bind fun x2 =>
  bif decide ((x1.1.length : Int) > x2) then some (10, a0)
  else (qVw k a0 a1).bind fun x3 =>
  bif !(decide (x3.1 = 0)) then some (x3.1, x3.2)
  else (qJm k x3.2 a1 x1.1).bind fun x4 =>
  bif !(decide (x4.1 = 0)) then some (x4.1, x4.2)
  else (qN5 k x4.2).bind fun x5 =>
  some (x5.1, x5.2))
 else none
def qQk (k : Nat) (a0 : vB) (a1 : List Int) : Option (((List Int) × (List (List Int)) × Int × vB × jR) ⊕ ((List Int) × (List (List Int)) × Int × vB)) :=
 (qEs k a0).bind fun x0 =>
 bif x0.2.2.2.2 then some (.inl (x0.2.2.1, x0.2.2.2.1, 0, a0, x0.2.1, x0.1, (x0.2.2.2.1.length : Int), true))
 else (qF4 k a0 0 1 a1).bind fun x1 =>
 bif !(decide (x1.1 = 0)) then some (.inr ([], [], x1.1, x1.2))
 else bif zY (0 + a1.length) 1 then some (.inl (a1, [], 0, x1.2, 0, 1, 0, false))
 else none
def qUd (k : Nat) (a0 : List Int) : Option ((List Int) × (List Int) × Bool) :=
 bif decide ((a0.length : Int) < 8) then some ([], [], false)
 else bif decide (8 ≤ (a0.length : Int)) then ((zHj k (List.take 8 a0)).bind fun x0 =>
  bif decide (8 ≤ (a0.length : Int)) then (bif zE 0 x0.1.length then (bif decide ((x0.1.getD 0 0) < 0) then some ([], [], false)
    else bif zE 0 x0.1.length then (bif decide ((x0.1.getD 0 0) > (zC (Int.tdiv ((List.drop 8 a0).length : Int) 8))) then some ([], [], false)
     else bif zE 0 x0.1.length then (bif (decide (0 ≤ (zC (8 * (x0.1.getD 0 0))))) && (decide ((zC (8 * (x0.1.getD 0 0))) ≤ ((List.drop 8 a0).length : Int))) then ((zHj k (List.take (zC (8 * (x0.1.getD 0 0))).toNat (List.drop 8 a0))).bind fun x1 =>
       bif (decide (0 ≤ (zC (8 * (x0.1.getD 0 0))))) && (decide ((zC (8 * (x0.1.getD 0 0))) ≤ ((List.drop 8 a0).length : Int))) then some (x1.1, (List.drop (zC (8 * (x0.1.getD 0 0))).toNat (List.drop 8 a0)), true)
       else none)
      else none)
     else none)
    else none)
   else none)
  else none)
 else none
def zMl (k : Nat) (a0 : K0q) : Option ((List Int) × K0q) :=
 (qUd k a0.1).bind fun x0 =>
 bif a0.2 then some (x0.1, x0.2.1, true)
 else some (x0.1, x0.2.1, (!x0.2.2))
def zVs (k : Nat) (a0 : K0q) (a1 : Int) : Option ((List Int) × K0q) :=
 (zMl k a0).bind fun x0 =>
 bif !(decide ((x0.1.length : Int) = a1)) then (bif zHb a1 a1 8 then some ((List.replicate a1.toNat (0 : Int)), x0.2.1, true)
  else none)
 else some (x0.1, x0.2)
abbrev zSw : Type := K0q × (List (List Int))
abbrev qBp : Type := Int → K0q → List (List Int) → Option zSw
def yFb (k : Nat) (rec : qBp) (s1 : Int) (b0 : K0q) (r1 : List (List Int)) : Option zSw :=
 bif decide (s1 > 0) then (bif !b0.2 then ((zMl k b0).bind fun x0 =>
   bif zY (r1.length + 1) 24 then (rec (zC (s1 - 1)) x0.2 (r1 ++ [x0.1]))
   else none)
  else some (b0, r1))
 else some (b0, r1)
def qEh (k : Nat) : Nat → qBp := vG (fun _ _ _ => none) (yFb k)
def zVw (k : Nat) (a0 : K0q) (a1 : Int) : Option ((List (List Int)) × K0q) :=
 (qEh k k a1 a0 []).bind fun z =>
 some (z.2, z.1)
def qU2 (k : Nat) (a0 a1 : List Int) : Option Bool :=
 some (zPk a0 a1)
abbrev zTt : Type := (List Int) × jM × K0q × (List Int) × jM × (List zQ)
abbrev qN4 : Type := List Int → Int → jM → K0q → List Int → jM → List zQ → Option zTt
def qR4 (k : Nat) (rec : qN4) (s0 : List Int) (s7 : Int) (b0 : jM) (b1 : K0q) (r2 : List Int) (b3 : jM) (r4 : List zQ) : Option zTt :=
 bif decide (s7 > 0) then (bif !b1.2 then ((zVs k b1 3).bind fun x1 =>
   bif zE 0 x1.1.length then (bif zE 1 x1.1.length then (bif zE 2 x1.1.length then (bif zY (r4.length + 1) 24 then (let y0 : List zQ := (r4 ++ [((x1.1.getD 0 0), (x1.1.getD 1 0), (x1.1.getD 2 0))])
       rec s0 (zC (s7 - 1)) b0 x1.2 r2 b3 y0)
      else none)
     else none)
    else none)
   else none)
  else some (s0, b0, b1, r2, b3, r4))
 else some (s0, b0, b1, r2, b3, r4)
def qFv (k : Nat) : Nat → qN4 := vG (fun _ _ _ _ _ _ _ => none) (qR4 k)
abbrev zUj : Type := (List Int) × jM × K0q × jM × (List zQ) × (List (List Int)) × (List Int) × (List (List Int)) × (List Int) × (List (List Int)) × (List zF)
abbrev qIl : Type := List Int → Int → jM → K0q → jM → List zQ → List (List Int) → List Int → List (List Int) → List Int → List (List Int) → List zF → Option zUj
def qQp (k : Nat) (rec : qIl) (s0 : List Int) (s9 : Int) (b0 : jM) (b1 : K0q) (b2 : jM) (r3 : List zQ) (r4 : List (List Int)) (r5 : List Int) (r6 : List (List Int)) (r7 : List Int) (r8 : List (List Int)) (r9 : List zF) : Option zUj :=
 bif decide (s9 > 0) then (bif !b1.2 then ((zVs k b1 7).bind fun x7 =>
   bif zE 0 x7.1.length then (bif zE 1 x7.1.length then (bif zE 2 x7.1.length then (bif zE 3 x7.1.length then (bif zE 4 x7.1.length then (bif zE 5 x7.1.length then (bif zE 6 x7.1.length then (bif zY (r9.length + 1) 56 then (let y1 : List zF := (r9 ++ [((x7.1.getD 0 0), (x7.1.getD 1 0), (x7.1.getD 2 0), (x7.1.getD 3 0), (x7.1.getD 4 0), (x7.1.getD 5 0), (x7.1.getD 6 0))])
           rec s0 (zC (s9 - 1)) b0 x7.2 b2 r3 r4 r5 r6 r7 r8 y1)
          else none)
         else none)
        else none)
       else none)
      else none)
     else none)
    else none)
   else none)
  else some (s0, b0, b1, b2, r3, r4, r5, r6, r7, r8, r9))
 else some (s0, b0, b1, b2, r3, r4, r5, r6, r7, r8, r9)
def qOf (k : Nat) : Nat → qIl := vG (fun _ _ _ _ _ _ _ _ _ _ _ _ => none) (qQp k)
def zZk (k : Nat) (a0 : List Int) : Option (vC × Bool) :=
 (zVs k (a0, false) 9).bind fun x0 =>
 bif zE 0 x0.1.length then (bif zE 1 x0.1.length then (bif zE 2 x0.1.length then (bif zE 3 x0.1.length then ((qFv k k a0 (x0.1.getD 3 0) (0, 0, false) x0.2 x0.1 ((x0.1.getD 0 0), (x0.1.getD 1 0), (decide ((x0.1.getD 2 0) = 1))) []).bind fun z =>
     bif zE 4 z.2.2.2.1.length then ((zVw k z.2.2.1 (z.2.2.2.1.getD 4 0)).bind fun x2 =>
      (zMl k x2.2).bind fun x3 =>
      bif zE 6 z.2.2.2.1.length then ((zVw k x3.2 (z.2.2.2.1.getD 6 0)).bind fun x4 =>
       (zMl k x4.2).bind fun x5 =>
       bif zE 7 z.2.2.2.1.length then ((zVw k x5.2 (z.2.2.2.1.getD 7 0)).bind fun x6 =>
        bif zE 8 z.2.2.2.1.length then ((qOf k k z.1 (z.2.2.2.1.getD 8 0) z.2.1 x6.2 z.2.2.2.2.1 z.2.2.2.2.2 x2.1 x3.1 x4.1 x5.1 x6.1 []).bind fun z1 =>
         (zMl k z1.2.2.1).bind fun x8 =>
         bif x8.2.2 then some ((0, [], [], [], [], [], [], [], [], 0, false), false)
         else (zCx k (z1.2.2.2.1.1, (qF8 z1 (x8.1, z1.2.2.2.1.2)))).bind fun x9 =>
         (qU2 k x9 z1.1).bind fun x10 =>
         bif !x10 then some ((0, [], [], [], [], [], [], [], [], 0, false), false)
         else some ((z1.2.2.2.1.1, (qF8 z1 (x8.1, z1.2.2.2.1.2))), true))
        else none)
       else none)
      else none)
     else none)
    else none)
   else none)
  else none)
 else none
def zMr (k : Nat) (a0 : Int) : Option Int :=
 bif decide (a0 = 9) then some 0
 else bif decide (a0 = 13) then some 0
 else bif decide (a0 = 14) then some 0
 else bif decide (a0 = 15) then some 0
 else bif decide (a0 = 2) then some 1
 else bif decide (a0 = 6) then some 1
 else bif decide (a0 = 7) then some 1
 else bif decide (a0 = 16) then some 1
 else bif decide (a0 = 19) then some 1
 else bif decide (a0 = 20) then some 1
 else bif decide (a0 = 21) then some 1
 else bif decide (a0 = 22) then some 1
 else bif decide (a0 = 23) then some 1
 else bif decide (a0 = 3) then some 2
 else bif decide (a0 = 4) then some 2
 else bif decide (a0 = 5) then some 2
 else bif decide (a0 = 8) then some 2
 else bif decide (a0 = 10) then some 2
 else bif decide (a0 = 11) then some 2
 else bif decide (a0 = 12) then some 2
 else bif decide (a0 = 18) then some 4
 else bif decide (a0 = 17) then some 5
 else bif decide (a0 = 1) then some 6
 else some (-1)
def zJ8 (k : Nat) (a0 : List Int) : Option (zF × Int) :=
 bif decide ((a0.length : Int) = 0) then some ((0, 0, 0, 0, 0, 0, 0), 2)
 else bif decide (1 ≤ (a0.length : Int)) then ((zHj k (List.drop 1 a0)).bind fun x0 =>
  bif !(decide (x0.2 = 0)) then some ((0, 0, 0, 0, 0, 0, 0), 2)
  else bif zE 0 a0.length then ((zMr k (zC ((a0.getD 0 0)))).bind fun x1 =>
   bif !(decide ((x0.1.length : Int) = x1)) then some ((0, 0, 0, 0, 0, 0, 0), 2)
   else bif zE 0 a0.length then some (((zC ((a0.getD 0 0))), (bif (Nat.blt 0 x0.1.length) then (x0.1.getD 0 0) else 0), (bif (Nat.blt 1 x0.1.length) then (x0.1.getD 1 0) else 0), (bif (Nat.blt 2 x0.1.length) then (x0.1.getD 2 0) else 0), (bif (Nat.blt 3 x0.1.length) then (x0.1.getD 3 0) else 0), (bif (Nat.blt 4 x0.1.length) then (x0.1.getD 4 0) else 0), (bif (Nat.blt 5 x0.1.length) then (x0.1.getD 5 0) else 0)), 0)
   else none)
  else none)
 else none
def qB3 (k : Nat) (a0 : List Int) : Option (qJ × Int) :=
 bif decide ((a0.length : Int) < 8) then some ((0, 0, 0, 0, 0, 0, 0, 0), 2)
 else bif decide (8 ≤ (a0.length : Int)) then ((zHj k (List.take 8 a0)).bind fun x0 =>
  bif decide (8 ≤ (a0.length : Int)) then ((zJ8 k (List.drop 8 a0)).bind fun x1 =>
   bif !(decide (x1.2 = 0)) then some ((0, 0, 0, 0, 0, 0, 0, 0), 2)
   else bif zE 0 x0.1.length then some (((x0.1.getD 0 0), x1.1), 0)
   else none)
  else none)
 else none
def zWg (k : Nat) (a0 : Int) : Option Bool :=
 bif decide (a0 ≥ 10) then some (decide (a0 ≤ 14))
 else some false
def zOr (k : Nat) (a0 : Int) : Option Bool :=
 bif decide (a0 ≥ 1) then some (decide (a0 ≤ 14))
 else some false
abbrev qHm : Type := List Int → Int → Int → Option (Unit ⊕ Bool)
def zS6 (k : Nat) (rec : qHm) (s13 : List Int) (s14 s15 : Int) : Option (Unit ⊕ Bool) :=
 bif decide (s15 < s14) then (bif zE s15 s13.length then (bif !(decide ((s13.getD s15.toNat 0) = 0)) then some (.inr false)
   else rec s13 s14 (zC (s15 + 1)))
  else none)
 else some (.inl ())
def zQv (k : Nat) : Nat → qHm := vG (fun _ _ _ => none) (zS6 k)
def zMz (k : Nat) (a0 : zF) : Option Bool :=
 (zMr k a0.1).bind fun x0 =>
 bif decide (x0 < 0) then some false
 else bif (decide (0 ≤ x0)) && (decide (x0 ≤ 6)) then ((zQv k k (qY [a0.2.1, a0.2.2.1, a0.2.2.2.1, a0.2.2.2.2.1, a0.2.2.2.2.2.1, a0.2.2.2.2.2.2] x0.toNat (6 - x0.toNat)) ((qY [a0.2.1, a0.2.2.1, a0.2.2.2.1, a0.2.2.2.2.1, a0.2.2.2.2.2.1, a0.2.2.2.2.2.2] x0.toNat (6 - x0.toNat)).length : Int) 0).bind fun z =>
  match z with
  | .inl z1 => some true
  | .inr z2 => some z2)
 else none
def zR1 (k : Nat) (a0 : yW) (a1 : vC) (a2 : qJ) : Option Int :=
 (zWg k a2.2.1).bind fun x0 =>
 bif decide (a2.1 ≥ 0) then ((zOr k a2.2.1).bind fun x1 =>
  bif !x1 then some 5
  else (zMz k a2.2).bind fun x2 =>
  bif !x2 then some 5
  else bif x0 then (bif !(decide (a2.1 = (-1))) then some 5
   else bif !x0 then (bif !(decide (a2.1 < a0.1)) then some 5
    else bif a1.2.2.2.2.2.2.2.2.2.2 then (bif !(decide (a2.2.1 = 9)) then some 7
     else some 0)
    else some 0)
   else bif a1.2.2.2.2.2.2.2.2.2.2 then (bif !(decide (a2.2.1 = 9)) then some 7
    else some 0)
   else some 0)
  else bif !x0 then (bif !(decide (a2.1 < a0.1)) then some 5
   else bif a1.2.2.2.2.2.2.2.2.2.2 then (bif !(decide (a2.2.1 = 9)) then some 7
    else some 0)
   else some 0)
  else bif a1.2.2.2.2.2.2.2.2.2.2 then (bif !(decide (a2.2.1 = 9)) then some 7
   else some 0)
  else some 0)
 else (zOr k a2.2.1).bind fun x3 =>
 bif !x3 then some 5
 else (zMz k a2.2).bind fun x4 =>
 bif !x4 then some 5
 else bif x0 then (bif !(decide (a2.1 = (-1))) then some 5
  else bif !x0 then some 5
  else bif a1.2.2.2.2.2.2.2.2.2.2 then (bif !(decide (a2.2.1 = 9)) then some 7
   else some 0)
  else some 0)
 else bif !x0 then some 5
 else bif a1.2.2.2.2.2.2.2.2.2.2 then (bif !(decide (a2.2.1 = 9)) then some 7
  else some 0)
 else some 0
def qM9 (k : Nat) (a0ID a0From a0To a0Amount a0Class a0Start a0Till a1 : Int) : Option Bool :=
 some (decide (a0From = a1))
abbrev zUr : Type := List zF
abbrev qM4 : Type := List zF → Int → Int → Int → List zF → Option zUr
def zKt (k : Nat) (rec : qM4) (s8 : List zF) (s9 s10 b0_0 : Int) (r1 : List zF) : Option zUr :=
 bif decide (s10 < s9) then (bif zE s10 s8.length then ((qM9 k (s8.getD s10.toNat (0, 0, 0, 0, 0, 0, 0)).1 (s8.getD s10.toNat (0, 0, 0, 0, 0, 0, 0)).2.1 (s8.getD s10.toNat (0, 0, 0, 0, 0, 0, 0)).2.2.1 (s8.getD s10.toNat (0, 0, 0, 0, 0, 0, 0)).2.2.2.1 (s8.getD s10.toNat (0, 0, 0, 0, 0, 0, 0)).2.2.2.2.1 (s8.getD s10.toNat (0, 0, 0, 0, 0, 0, 0)).2.2.2.2.2.1 (s8.getD s10.toNat (0, 0, 0, 0, 0, 0, 0)).2.2.2.2.2.2 b0_0).bind fun x0 =>
   bif x0 then (bif zY (r1.length + 1) 56 then (let y0 : List zF := (r1 ++ [(s8.getD s10.toNat (0, 0, 0, 0, 0, 0, 0))])
     rec s8 s9 (zC (s10 + 1)) b0_0 y0)
    else none)
   else rec s8 s9 (zC (s10 + 1)) b0_0 r1)
  else none)
 else some r1
def zPn (k : Nat) : Nat → qM4
 | 0, _, _, _, _, _ => none
 | n + 1, s8, s9, s10, b0_0, r1 => zKt k (zPn k n) s8 s9 s10 b0_0 r1
def qOd (k : Nat) (a0 : List zF) (a1_0 : Int) : Option (List zF) :=
 (zPn k k a0 (a0.length : Int) 0 a1_0 []).bind fun z =>
 some z
def zRx (k : Nat) (a0 : List zF) (a1 : Int) : Option (List zF) :=
 (qOd k a0 a1).bind fun x0 =>
 some x0
def yJ4 (k : Nat) (a0 : (Int × Int × Int × Int × Int × Int × Bool × Int)) (a1 : Int) (a2 : List Int) : Option wD :=
 some (a0.1, [], (zC8 a0 ([], [], [], [], [], [], [], [], a0.2.2.2.2.2.1, a0.2.2.2.2.2.2.1, a0.2.2.2.2.2.2.2, [(a0.2.2.2.2.2.2.2, a1, (bif (Nat.blt 0 a2.length) then (a2.getD 0 0) else 0), (bif (Nat.blt 1 a2.length) then (a2.getD 1 0) else 0), (bif (Nat.blt 2 a2.length) then (a2.getD 2 0) else 0), (bif (Nat.blt 3 a2.length) then (a2.getD 3 0) else 0), (bif (Nat.blt 4 a2.length) then (a2.getD 4 0) else 0), (bif (Nat.blt 5 a2.length) then (a2.getD 5 0) else 0))])))
def zTa (k : Nat) (a0 : vC) (a1 : Int) : Option (List qJ) :=
 bif zE a1 a0.2.1.length then ((zRx k a0.2.2.2.2.2.2.2.1 a1).bind fun x0 =>
  (yJ4 k (0, 0, 0, 0, 0, 0, false, a1) 17 [(a0.2.1.getD a1.toNat (0, 0, 0)).1, (a0.2.1.getD a1.toNat (0, 0, 0)).2.1, (a0.2.1.getD a1.toNat (0, 0, 0)).2.2, (x0.length : Int), a0.1]).bind fun x1 =>
  some x1.2.2.2.2.2.2.2.2.2.2.2.2.2.2.2.2.2)
 else none
def zSt (k : Nat) (a0 : zBl) (a1 : Int) (a2 : List Int) : Option wD :=
 some (yY a0 [(a0.2.2.2.2.2.2.2.2.2.2.2.2.2.2.2.2, a1, (bif (Nat.blt 0 a2.length) then (a2.getD 0 0) else 0), (bif (Nat.blt 1 a2.length) then (a2.getD 1 0) else 0), (bif (Nat.blt 2 a2.length) then (a2.getD 2 0) else 0), (bif (Nat.blt 3 a2.length) then (a2.getD 3 0) else 0), (bif (Nat.blt 4 a2.length) then (a2.getD 4 0) else 0), (bif (Nat.blt 5 a2.length) then (a2.getD 5 0) else 0))])
def yR (k : Nat) (a0 a1 a2 : Int) : Option Bool :=
 bif decide (a0 ≥ a1) then some (decide (a0 ≤ a2))
 else some false
def zNw (k : Nat) (a0 : yW) (a1 : Int) : Option Bool :=
 bif decide (a1 ≥ 0) then some (decide (a1 < a0.1))
 else some false
def zYg (k : Nat) (a0 : yW) (a1 : Int) (a2 : zF) : Option Bool :=
 (zNw k a0 a2.2.1).bind fun x0 =>
 bif x0 then ((zNw k a0 a2.2.2.1).bind fun x1 =>
  bif x1 then (bif decide (a2.1 ≥ 1) then (bif decide (a2.2.2.2.1 ≥ 1) then (bif decide (a2.2.2.2.1 ≤ 1099511627776) then (bif decide (a2.2.2.2.2.1 ≥ 1) then (bif !(decide (a2.2.1 = a2.2.2.1)) then (bif decide (a2.2.2.2.2.1 ≤ 3) then (bif decide (a2.2.2.2.2.2.1 ≥ 0) then (bif decide (a2.2.2.2.2.2.1 ≤ a2.2.2.2.2.2.2) then (bif decide (a2.2.2.2.2.2.2 ≥ a1) then some (decide (a2.2.2.2.2.2.2 ≤ 1048576))
           else some false)
          else some false)
         else some false)
        else some false)
       else some false)
      else bif !(decide (a2.2.1 = a2.2.2.1)) then some false
      else some false)
     else bif !(decide (a2.2.1 = a2.2.2.1)) then some false
     else some false)
    else bif !(decide (a2.2.1 = a2.2.2.1)) then some false
    else some false)
   else bif !(decide (a2.2.1 = a2.2.2.1)) then some false
   else some false)
  else bif decide (a2.1 ≥ 1) then (bif decide (a2.2.2.2.1 ≥ 1) then (bif decide (a2.2.2.2.1 ≤ 1099511627776) then (bif decide (a2.2.2.2.2.1 ≥ 1) then some false
     else some false)
    else some false)
   else some false)
  else some false)
 else bif decide (a2.1 ≥ 1) then (bif decide (a2.2.2.2.1 ≥ 1) then (bif decide (a2.2.2.2.1 ≤ 1099511627776) then (bif decide (a2.2.2.2.2.1 ≥ 1) then some false
    else some false)
   else some false)
  else some false)
 else some false
def zHt (k : Nat) (a0 : yW) (a1 a2 : Int) : Option Int :=
 bif decide (a1 ≥ a0.2.2.2.1) then some 7
 else bif decide (a2 = 3) then (bif decide (a1 ≥ a0.2.2.1) then some 7
  else some 0)
 else some 0
def zI4 (k : Nat) (a0 : yW) (a1 : Int) (a2 : zF) : Option Int :=
 (zYg k a0 a1 a2).bind fun x0 =>
 bif !x0 then some 1
 else (zHt k a0 a1 a2.2.2.2.2.1).bind fun x1 =>
 some x1
def zUe (k : Nat) (a0 : Int) : Option Bool :=
 some (!(decide (a0 = a0)))
def zS7 (k : Nat) (a0 a1 : Int) : Option Bool :=
 (zUe k a0).bind fun x0 =>
 bif x0 then ((zUe k a1).bind fun x1 =>
  bif !x1 then some true
  else some (decide (a0 < a1)))
 else some (decide (a0 < a1))
def zY9 (k : Nat) (a0 : Int) : Option Bool :=
 some (!(decide (a0 = a0)))
abbrev zTf : Type := (List Int) × Int × Int × Int
abbrev qDy : Type := List Int → Int → Int → Int → Int → Option zTf
def zYd (k : Nat) (rec : qDy) (s0 : List Int) (s1 s6 s7 s8 : Int) : Option zTf :=
 bif decide (s7 < s8) then (bif zE (zC ((shr .u64 (IntKind.wrap .u64 ((zC (s7 + s8)))) 1))) s0.length then ((zS7 k (s0.getD (zC ((shr .u64 (IntKind.wrap .u64 ((zC (s7 + s8)))) 1))).toNat 0) s1).bind fun x0 =>
   bif x0 then (rec s0 s1 s6 (zC ((zC ((shr .u64 (IntKind.wrap .u64 ((zC (s7 + s8)))) 1))) + 1)) s8)
   else rec s0 s1 s6 s7 (zC ((shr .u64 (IntKind.wrap .u64 ((zC (s7 + s8)))) 1))))
  else none)
 else some (s0, s1, s6, s7)
def zPo (k : Nat) : Nat → qDy := vG (fun _ _ _ _ _ => none) (zYd k)
def zKx (k : Nat) (a0 : List Int) (a1 : Int) : Option (Int × Bool) :=
 (zPo k k a0 a1 (a0.length : Int) 0 (a0.length : Int)).bind fun z =>
 bif decide (z.2.2.2 < z.2.2.1) then (bif zE z.2.2.2 z.1.length then (bif decide ((z.1.getD z.2.2.2.toNat 0) = z.2.1) then some (z.2.2.2, true)
   else bif zE z.2.2.2 z.1.length then ((zY9 k (z.1.getD z.2.2.2.toNat 0)).bind fun x1 =>
    bif x1 then ((zY9 k z.2.1).bind fun x2 =>
     some (z.2.2.2, x2))
    else some (z.2.2.2, false))
   else none)
  else none)
 else some (z.2.2.2, false)
def zDo (k : Nat) (a0 : List Int) : Option (List Int) :=
 bif zY (0 + a0.length) 8 then some a0
 else none
abbrev yCl (k : Nat) (a0 : List Int) (a1 : Int) (a2 : List Int) : Option (List Int) := ins 8 a0 a1 a2
def zLk (k : Nat) (a0 : List Int) (a1 : Int) : Option ((List Int) × Int) :=
 (zKx k a0 a1).bind fun x0 =>
 bif x0.2 then some (a0, 6)
 else bif decide ((a0.length : Int) ≥ 200) then some (a0, 3)
 else (zDo k a0).bind fun x1 =>
 (yCl k x1 x0.1 [a1]).bind fun x2 =>
 some (x2, 0)
def qKj (k : Nat) (a0ID a0From a0To a0Amount a0Class a0Start a0Till a1 : Int) : Option Bool :=
 some (decide (a0ID = a1))
abbrev qMw : Type := List zF → Int → Int → Int → Option (Unit ⊕ Int)
def zI7 (k : Nat) (rec : qMw) (s0 : List zF) (s7 s8 b0_0 : Int) : Option (Unit ⊕ Int) :=
 bif decide (s8 < s7) then (bif zE s8 s0.length then ((qKj k (s0.getD s8.toNat (0, 0, 0, 0, 0, 0, 0)).1 (s0.getD s8.toNat (0, 0, 0, 0, 0, 0, 0)).2.1 (s0.getD s8.toNat (0, 0, 0, 0, 0, 0, 0)).2.2.1 (s0.getD s8.toNat (0, 0, 0, 0, 0, 0, 0)).2.2.2.1 (s0.getD s8.toNat (0, 0, 0, 0, 0, 0, 0)).2.2.2.2.1 (s0.getD s8.toNat (0, 0, 0, 0, 0, 0, 0)).2.2.2.2.2.1 (s0.getD s8.toNat (0, 0, 0, 0, 0, 0, 0)).2.2.2.2.2.2 b0_0).bind fun x0 =>
   bif x0 then some (.inr s8)
   else rec s0 s7 (zC (s8 + 1)) b0_0)
  else none)
 else some (.inl ())
def zNr (k : Nat) : Nat → qMw
 | 0, _, _, _, _ => none
 | n + 1, s0, s7, s8, b0_0 => zI7 k (zNr k n) s0 s7 s8 b0_0
def qFz (k : Nat) (a0 : List zF) (a1_0 : Int) : Option Int :=
 (zNr k k a0 (a0.length : Int) 0 a1_0).bind fun z =>
 match z with
 | .inl z1 => some (-1)
 | .inr z2 => some z2
def zCt (k : Nat) (a0 : List zF) (a1 : Int) : Option Int :=
 (qFz k a0 a1).bind fun x0 =>
 some x0
def zT0 (k : Nat) (a0 : Int) : Option Bool :=
 some (!(decide (a0 = a0)))
def zRy (k : Nat) (a0 a1 : Int) : Option Int :=
 (zT0 k a0).bind fun x0 =>
 (zT0 k a1).bind fun x1 =>
 bif x0 then (bif x1 then some 0
  else some (-1))
 else bif x1 then some 1
 else bif decide (a0 < a1) then some (-1)
 else bif decide (a0 > a1) then some 1
 else some 0
abbrev qBb : Type := Int → List Int → Int → Int → Option (Int ⊕ Int)
def yNd (k : Nat) (rec : qBb) (s3 : Int) (s6 : List Int) (s7 s8 : Int) : Option (Int ⊕ Int) :=
 bif decide (s8 < s7) then (bif zE s8 s6.length then (bif !(decide ((s6.getD s8.toNat 0) = s3)) then some (.inr (s6.getD s8.toNat 0))
   else rec s3 s6 s7 (zC (s8 + 1)))
  else none)
 else some (.inl s3)
def zLz (k : Nat) : Nat → qBb
 | 0, _, _, _, _ => none
 | n + 1, s3, s6, s7, s8 => yNd k (zLz k n) s3 s6 s7 s8
def zVh (k : Nat) (a0 : List Int) : Option Int :=
 (zLz k k 0 a0 (a0.length : Int) 0).bind fun z =>
 match z with
 | .inl z1 => some z1
 | .inr z2 => some z2
def zJh (k : Nat) (a0ID a0From a0To a0Amount a0Class a0Start a0Till a1ID a1From a1To a1Amount a1Class a1Start a1Till : Int) : Option Int :=
 (zRy k a0From a1From).bind fun x0 =>
 (zRy k a0Class a1Class).bind fun x1 =>
 (zVh k [x0, x1]).bind fun x2 =>
 some x2
def zGl (k : Nat) (a0 : List zF) : Option (List zF) :=
 bif zY (0 + a0.length) 56 then some a0
 else none
abbrev zZc (k : Nat) (a0 : List zF) (a1 : Int) (a2 : List zF) : Option (List zF) := ins 56 a0 a1 a2
abbrev zVk : Type := (List zF) × Int × zF
abbrev qKc : Type := List zF → Int → zF → Option zVk
def zLc (k : Nat) (rec : qKc) (s0 : List zF) (s6 : Int) (b0 : zF) : Option zVk :=
 bif decide (s6 < (s0.length : Int)) then (bif zE s6 s0.length then ((zJh k (s0.getD s6.toNat (0, 0, 0, 0, 0, 0, 0)).1 (s0.getD s6.toNat (0, 0, 0, 0, 0, 0, 0)).2.1 (s0.getD s6.toNat (0, 0, 0, 0, 0, 0, 0)).2.2.1 (s0.getD s6.toNat (0, 0, 0, 0, 0, 0, 0)).2.2.2.1 (s0.getD s6.toNat (0, 0, 0, 0, 0, 0, 0)).2.2.2.2.1 (s0.getD s6.toNat (0, 0, 0, 0, 0, 0, 0)).2.2.2.2.2.1 (s0.getD s6.toNat (0, 0, 0, 0, 0, 0, 0)).2.2.2.2.2.2 b0.1 b0.2.1 b0.2.2.1 b0.2.2.2.1 b0.2.2.2.2.1 b0.2.2.2.2.2.1 b0.2.2.2.2.2.2).bind fun x1 =>
   bif decide (x1 ≤ 0) then (rec s0 (zC (s6 + 1)) b0)
   else some (s0, s6, b0))
  else none)
 else some (s0, s6, b0)
def zJz (k : Nat) : Nat → qKc := vG (fun _ _ _ => none) (zLc k)
def zF9 (k : Nat) (a0 : List zF) (a1 : zF) : Option ((List zF) × Int) :=
 (zCt k a0 a1.1).bind fun x0 =>
 bif decide (x0 ≥ 0) then some (a0, 6)
 else bif decide ((a0.length : Int) ≥ 40) then some (a0, 3)
 else (zJz k k a0 0 a1).bind fun z =>
 (zGl k z.1).bind fun x2 =>
 (zZc k x2 z.2.1 [z.2.2]).bind fun x3 =>
 some (x3, 0)
def zXv (k : Nat) (a0 : wD) (a1 : (Int × Int × Int × Int × Int × Int)) : Option (Int × wD) :=
 (yR k a1.2.1 0 (zC (a0.1 - 1))).bind fun x0 =>
 bif !x0 then some (1, a0)
 else (yR k a1.2.2.2.1 1 3).bind fun x1 =>
 bif !x1 then some (1, a0)
 else (zI4 k (vE a0) a0.2.2.2.2.2.1 (a1.1, a0.2.2.2.2.2.2.2.2.2.2.2.2.2.2.2.2.1, a1.2)).bind fun x2 =>
 bif !(decide (x2 = 0)) then some (x2, a0)
 else (zLk k a0.2.2.2.2.2.2.2.2.2.2.2.2.2.1 a1.1).bind fun x3 =>
 bif !(decide (x3.2 = 0)) then some (x3.2, a0)
 else (zF9 k a0.2.2.2.2.2.2.2.2.2.2.2.2.1 (a1.1, a0.2.2.2.2.2.2.2.2.2.2.2.2.2.2.2.2.1, a1.2)).bind fun x4 =>
 bif !(decide (x4.2 = 0)) then some (x4.2, a0)
 else some (0, (zDs a0 (x4.1, x3.1, a0.2.2.2.2.2.2.2.2.2.2.2.2.2.2)))
def qEw (k : Nat) (a0 : wD) (a1 : Int) : Option (zF × Int) :=
 (zCt k a0.2.2.2.2.2.2.2.2.2.2.2.2.1 a1).bind fun x0 =>
 bif decide (x0 < 0) then some ((0, 0, 0, 0, 0, 0, 0), 4)
 else bif zE x0 a0.2.2.2.2.2.2.2.2.2.2.2.2.1.length then (bif !(decide ((a0.2.2.2.2.2.2.2.2.2.2.2.2.1.getD x0.toNat (0, 0, 0, 0, 0, 0, 0)).2.1 = a0.2.2.2.2.2.2.2.2.2.2.2.2.2.2.2.2.1)) then some ((0, 0, 0, 0, 0, 0, 0), 4)
  else bif zE x0 a0.2.2.2.2.2.2.2.2.2.2.2.2.1.length then some ((a0.2.2.2.2.2.2.2.2.2.2.2.2.1.getD x0.toNat (0, 0, 0, 0, 0, 0, 0)), 0)
  else none)
 else none
def zQl (k : Nat) (a0 : List zF) (a1 a2 : Int) : Option (List zF) :=
 bif ((((decide (0 ≤ a1)) && (decide (a1 ≤ a2))) && (decide (a2 ≤ (a0.length : Int)))) && (decide (((a2.toNat : Nat) : Int) ≤ (a0.length : Int)))) && (decide ((a0.length : Int) ≤ (a0.length : Int))) then (bif decide (a1 = a2) then some a0
  else bif (decide (0 ≤ a1)) && (decide (a1 ≤ (a0.length : Int))) then (bif (decide (0 ≤ a2)) && (decide (a2 ≤ (a0.length : Int))) then (bif Nat.ble (a1.toNat - 0) (0 + a2.toNat) then (let y0 : List zF := (((List.take (a1.toNat - 0) a0) ++ (qY a0 (0 + a2.toNat) (a0.length - a2.toNat))) ++ (List.drop ((a1.toNat - 0) + (a0.length - a2.toNat)) a0))
     bif ((decide (0 ≤ ((qY y0 0 ((a1.toNat - 0) + (a0.length - a2.toNat))).length : Int))) && (decide (((qY y0 0 ((a1.toNat - 0) + (a0.length - a2.toNat))).length : Int) ≤ (a0.length : Int)))) && (decide ((a0.length : Int) ≤ (((y0.length - 0) : Nat) : Int))) then (let y1 : List zF := (((List.take (0 + (qY y0 0 ((a1.toNat - 0) + (a0.length - a2.toNat))).length) y0) ++ (List.replicate (a0.length - (qY y0 0 ((a1.toNat - 0) + (a0.length - a2.toNat))).length) ((0, 0, 0, 0, 0, 0, 0) : Int × Int × Int × Int × Int × Int × Int))) ++ (List.drop ((0 + (qY y0 0 ((a1.toNat - 0) + (a0.length - a2.toNat))).length) + (a0.length - (qY y0 0 ((a1.toNat - 0) + (a0.length - a2.toNat))).length)) y0))
      some (List.take ((a1.toNat - 0) + (a0.length - a2.toNat)) y1))
     else none)
    else none)
   else none)
  else none)
 else none
def zDw (k : Nat) (a0 : List zF) (a1 : Int) : Option ((List zF) × Int × Int × Int × Int × Int × Int × Int × Int) :=
 (zCt k a0 a1).bind fun x0 =>
 bif decide (x0 < 0) then some (a0, 0, 0, 0, 0, 0, 0, 0, 4)
 else (zGl k a0).bind fun x1 =>
 (zQl k x1 x0 (zC (x0 + 1))).bind fun x2 =>
 bif zE x0 a0.length then some (x2, (zB6 (a0.getD x0.toNat (0, 0, 0, 0, 0, 0, 0)) 0))
 else none
def zG7 (k : Nat) (a0 : wD) (a1 : Int) (a2 : List Int) : Option wD :=
 bif zY (a0.2.2.2.2.2.2.2.2.2.2.2.2.2.2.2.2.2.length + 1) 64 then (let y0 : List qJ := (a0.2.2.2.2.2.2.2.2.2.2.2.2.2.2.2.2.2 ++ [(a0.2.2.2.2.2.2.2.2.2.2.2.2.2.2.2.2.1, a1, (bif (Nat.blt 0 a2.length) then (a2.getD 0 0) else 0), (bif (Nat.blt 1 a2.length) then (a2.getD 1 0) else 0), (bif (Nat.blt 2 a2.length) then (a2.getD 2 0) else 0), (bif (Nat.blt 3 a2.length) then (a2.getD 3 0) else 0), (bif (Nat.blt 4 a2.length) then (a2.getD 4 0) else 0), (bif (Nat.blt 5 a2.length) then (a2.getD 5 0) else 0))])
  some (qLd a0 y0))
 else none
def zLm (k : Nat) (a0 : List zF) (a1 a2 : Int) : Option ((List zF) × Int) :=
 (zDw k a0 a1).bind fun x0 =>
 bif !(decide (x0.2.2.2.2.2.2.2.2 = 0)) then some (a0, x0.2.2.2.2.2.2.2.2)
 else (zF9 k x0.1 (zC8 x0 (a2, x0.2.2.2.2.2.2.1, x0.2.2.2.2.2.2.2.1))).bind fun x1 =>
 some (x1.1, x1.2)
def qKg (k : Nat) (a0 : List zF) (a1 : Int) : Option ((List zF) × Int × Int × Int × Int × Int × Int × Int × Int) :=
 (zCt k a0 a1).bind fun x0 =>
 bif decide (x0 < 0) then none
 else (zGl k a0).bind fun x1 =>
 (zQl k x1 x0 (zC (x0 + 1))).bind fun x2 =>
 bif zE x0 a0.length then some (x2, (zB6 (a0.getD x0.toNat (0, 0, 0, 0, 0, 0, 0)) 0))
 else none
abbrev zWt : Type := Int × (List zF) × zF
abbrev qKq : Type := Int → List zF → zF → Option zWt
def zKf (k : Nat) (rec : qKq) (s9 : Int) (r0 : List zF) (b1 : zF) : Option zWt :=
 bif decide (s9 < (r0.length : Int)) then (bif zE s9 r0.length then ((zJh k (r0.getD s9.toNat (0, 0, 0, 0, 0, 0, 0)).1 (r0.getD s9.toNat (0, 0, 0, 0, 0, 0, 0)).2.1 (r0.getD s9.toNat (0, 0, 0, 0, 0, 0, 0)).2.2.1 (r0.getD s9.toNat (0, 0, 0, 0, 0, 0, 0)).2.2.2.1 (r0.getD s9.toNat (0, 0, 0, 0, 0, 0, 0)).2.2.2.2.1 (r0.getD s9.toNat (0, 0, 0, 0, 0, 0, 0)).2.2.2.2.2.1 (r0.getD s9.toNat (0, 0, 0, 0, 0, 0, 0)).2.2.2.2.2.2 b1.1 b1.2.1 b1.2.2.1 b1.2.2.2.1 b1.2.2.2.2.1 b1.2.2.2.2.2.1 b1.2.2.2.2.2.2).bind fun x1 =>
   bif decide (x1 < 0) then (rec (zC (s9 + 1)) r0 b1)
   else some (s9, r0, b1))
  else none)
 else some (s9, r0, b1)
def zNg (k : Nat) : Nat → qKq := vG (fun _ _ _ => none) (zKf k)
def zK7 (k : Nat) (a0 : List zF) (a1 : Int) : Option ((List zF) × Int) :=
 (qKg k a0 a1).bind fun x0 =>
 bif !(decide (x0.2.2.2.2.2.2.2.2 = 0)) then some (a0, x0.2.2.2.2.2.2.2.2)
 else (zNg k k 0 x0.1 (zN7 x0)).bind fun z =>
 (zZc k z.2.1 z.1 [z.2.2]).bind fun x2 =>
 some (x2, 0)
def zJf (k : Nat) (a0 : List zF) (a1 : Int) : Option ((List zF) × Int) :=
 (zDw k a0 a1).bind fun x0 =>
 bif !(decide (x0.2.2.2.2.2.2.2.2 = 0)) then some (a0, x0.2.2.2.2.2.2.2.2)
 else (zF9 k x0.1 (zN7 x0)).bind fun x1 =>
 some (x1.1, x1.2)
def zHk (k : Nat) (a0 : wD) (a1 : zF) : Option (Int × wD) :=
 (qEw k a0 a1.2.1).bind fun x0 =>
 bif !(decide (x0.2 = 0)) then some (x0.2, a0)
 else bif decide (a1.1 = 2) then ((zDw k a0.2.2.2.2.2.2.2.2.2.2.2.2.1 a1.2.1).bind fun x1 =>
  (zG7 k (zDs a0 (x1.1, a0.2.2.2.2.2.2.2.2.2.2.2.2.2)) 20 [a1.2.1]).bind fun x2 =>
  some (x1.2.2.2.2.2.2.2.2, x2))
 else bif decide (a1.1 = 4) then ((yR k a1.2.2.1 1 3).bind fun x3 =>
  bif !x3 then some (1, a0)
  else (zHt k (vE a0) a0.2.2.2.2.2.1 a1.2.2.1).bind fun x4 =>
  bif !(decide (x4 = 0)) then some (x4, a0)
  else (zLm k a0.2.2.2.2.2.2.2.2.2.2.2.2.1 a1.2.1 a1.2.2.1).bind fun x5 =>
  some (x5.2, (zDs a0 (x5.1, a0.2.2.2.2.2.2.2.2.2.2.2.2.2))))
 else bif decide (a1.2.2.1 = 0) then ((zK7 k a0.2.2.2.2.2.2.2.2.2.2.2.2.1 a1.2.1).bind fun x6 =>
  some (x6.2, (zDs a0 (x6.1, a0.2.2.2.2.2.2.2.2.2.2.2.2.2))))
 else bif decide (a1.2.2.1 = 1) then ((zJf k a0.2.2.2.2.2.2.2.2.2.2.2.2.1 a1.2.1).bind fun x7 =>
  some (x7.2, (zDs a0 (x7.1, a0.2.2.2.2.2.2.2.2.2.2.2.2.2))))
 else some (1, a0)
def qJp (k : Nat) (a0 : List zQ) : Option (List zQ) :=
 bif zY (0 + a0.length) 24 then some a0
 else none
def qBi (k : Nat) (a0 : List (List Int)) : Option Nat :=
 bif zY (0 + a0.length) 24 then some a0.length
 else none
abbrev qC4 : Type := List (List Int) → Int → Int → List (List Int) → Nat → Option ((List (List Int)) × Nat)
def zNn (k : Nat) (rec : qC4) (s8 : List (List Int)) (s9 s10 : Int) (m0 : List (List Int)) (n0 : Nat) : Option ((List (List Int)) × Nat) :=
 bif decide (s10 < s9) then (bif zE s10 s8.length then ((zDo k (s8.getD s10.toNat [])).bind fun x1 =>
   bif zE s10 n0 then (bif Nat.beq s10.toNat m0.length then (rec s8 s9 (zC (s10 + 1)) (m0 ++ [x1]) n0)
    else none)
   else none)
  else none)
 else some (m0, n0)
def zQf (k : Nat) : Nat → qC4
 | 0, _, _, _, _, _ => none
 | n + 1, s8, s9, s10, m0, n0 => zNn k (zQf k n) s8 s9 s10 m0 n0
def zPb (k : Nat) (a0 : List (List Int)) : Option (List (List Int)) :=
 (qBi k a0).bind fun x0 =>
 (zQf k k a0 (a0.length : Int) 0 [] x0).bind fun z =>
 qOy z.1 z.2
def jS (k : Nat) (vH0 : List zQ) (vH1 : List (List Int)) (vH2 : List Int) (vH3 : List (List Int)) : Option zOb :=
 (qJp k vH0).bind fun x0 =>
 (zPb k vH1).bind fun x1 =>
 (zDo k vH2).bind fun x2 =>
 (zPb k vH3).bind fun x3 =>
 some (x0, x1, x2, x3)
def qGt (k : Nat) (a0 : wD) (a1 : Int) : Option Bool :=
 (yR k a1 0 (zC (a0.1 - 1))).bind fun x0 =>
 bif x0 then some (!(decide (a1 = a0.2.2.2.2.2.2.2.2.2.2.2.2.2.2.2.2.1)))
 else some false
def zIu (k : Nat) (a0 : wD) (a1 : zF) : Option (Int × wD) :=
 (jS k a0.2.2.2.2.2.2.1 a0.2.2.2.2.2.2.2.1 a0.2.2.2.2.2.2.2.2.1 a0.2.2.2.2.2.2.2.2.2.1).bind fun x0 =>
 bif decide (a1.1 = 5) then ((qGt k a0 a1.2.1).bind fun x1 =>
  bif !x1 then some (1, a0)
  else (yR k a1.2.2.1 (-1) 1152921504606846976).bind fun x2 =>
  bif !x2 then some (1, a0)
  else bif zE a0.2.2.2.2.2.2.2.2.2.2.2.2.2.2.2.2.1 x0.2.1.length then (bif zE a1.2.1 (x0.2.1.getD a0.2.2.2.2.2.2.2.2.2.2.2.2.2.2.2.2.1.toNat []).length then (let y0 : List (List Int) := (x0.2.1.set a0.2.2.2.2.2.2.2.2.2.2.2.2.2.2.2.2.1.toNat ((x0.2.1.getD a0.2.2.2.2.2.2.2.2.2.2.2.2.2.2.2.2.1.toNat []).set a1.2.1.toNat a1.2.2.1))
    some (0, (zAl a0 (x0.1, y0, x0.2.2.1, x0.2.2.2, a0.2.2.2.2.2.2.2.2.2.2))))
   else none)
  else none)
 else bif decide (a1.1 = 6) then ((yR k a1.2.1 (-1) 1152921504606846976).bind fun x3 =>
  bif !x3 then some (1, a0)
  else bif zE a0.2.2.2.2.2.2.2.2.2.2.2.2.2.2.2.2.1 x0.2.2.1.length then (let y1 : List Int := (x0.2.2.1.set a0.2.2.2.2.2.2.2.2.2.2.2.2.2.2.2.2.1.toNat a1.2.1)
   some (0, (zAl a0 (x0.1, x0.2.1, y1, x0.2.2.2, a0.2.2.2.2.2.2.2.2.2.2))))
  else none)
 else (yR k a1.2.1 0 1152921504606846976).bind fun x4 =>
 bif !x4 then some (1, a0)
 else bif zE a0.2.2.2.2.2.2.2.2.2.2.2.2.2.2.2.2.1 x0.1.length then (let y2 : List zQ := (x0.1.set a0.2.2.2.2.2.2.2.2.2.2.2.2.2.2.2.2.1.toNat ((x0.1.getD a0.2.2.2.2.2.2.2.2.2.2.2.2.2.2.2.2.1.toNat (0, 0, 0)).1, (x0.1.getD a0.2.2.2.2.2.2.2.2.2.2.2.2.2.2.2.2.1.toNat (0, 0, 0)).2.1, a1.2.1))
  some (0, (zAl a0 (y2, x0.2.1, x0.2.2.1, x0.2.2.2, a0.2.2.2.2.2.2.2.2.2.2))))
 else none
def zRk (k : Nat) (a0 : wD) (a1 : Int) : Option Bool :=
 (yR k a1 0 (zC ((a0.2.1.length : Int) - 1))).bind fun x0 =>
 some x0
def zNo (k : Nat) (a0 : List (List Int)) : Option (List (List Int)) :=
 bif zY (0 + a0.length) 24 then some a0
 else none
def zDp (k : Nat) (a0 : List Int) (a1 a2 : Int) : Option (List Int) :=
 (zDo k a0).bind fun x0 =>
 bif decide (a1 ≥ 0) then (bif decide (a1 < (x0.length : Int)) then (bif zE a1 x0.length then some (x0.set a1.toNat a2)
   else none)
  else some x0)
 else some x0
def qCf (k : Nat) (a0 : Int) : Option Bool :=
 bif decide (a0 ≥ 0) then some (decide (a0 ≤ 10000))
 else some false
def zP8 (k : Nat) (a0 a1 : Int) : Option vX :=
 some ((IntKind.wrap .u64 ((IntKind.wrap .u64 ((IntKind.wrap .u64 ((shr .u64 a0 32) * (shr .u64 a1 32))) + (shr .u64 (IntKind.wrap .u64 ((IntKind.wrap .u64 ((shr .u64 a0 32) * (zAm .u64 a1 4294967295))) + (shr .u64 (IntKind.wrap .u64 ((zAm .u64 a0 4294967295) * (zAm .u64 a1 4294967295))) 32))) 32))) + (shr .u64 (IntKind.wrap .u64 ((zAm .u64 (IntKind.wrap .u64 ((IntKind.wrap .u64 ((shr .u64 a0 32) * (zAm .u64 a1 4294967295))) + (shr .u64 (IntKind.wrap .u64 ((zAm .u64 a0 4294967295) * (zAm .u64 a1 4294967295))) 32))) 4294967295) + (IntKind.wrap .u64 ((zAm .u64 a0 4294967295) * (shr .u64 a1 32))))) 32))), (IntKind.wrap .u64 (a0 * a1)))
def yJb (k : Nat) (a0 : Int) : Option Int :=
 bif decide (a0 ≥ 4294967296) then (bif decide ((shr .u64 a0 32) ≥ 65536) then (bif decide ((shr .u64 (shr .u64 a0 32) 16) ≥ 256) then none
   else none)
  else bif decide ((shr .u64 a0 32) ≥ 256) then none
  else none)
 else bif decide (a0 ≥ 65536) then (bif decide ((shr .u64 a0 16) ≥ 256) then none
  else none)
 else bif decide (a0 ≥ 256) then none
 else none
def qU9 (k : Nat) (a0 : Int) : Option Int :=
 (yJb k a0).bind fun x0 =>
 some (zC (64 - x0))
abbrev zTg : Type := Int × Int × Int × Int × Int × Int × Int × Int
abbrev qB1 : Type := Int → Int → Int → Int → Int → Int → Int → Int → Int → Option zTg
def yFv (k : Nat) (rec : qB1) (s2 s8 s9 s10 s11 s13 s14 s15 s16 : Int) : Option zTg :=
 bif decide (s15 ≥ 4294967296) then (bif decide ((IntKind.wrap .u64 (s16 + s9)) ≥ 4294967296) then some (s2, s8, s9, s10, s11, s13, s14, (IntKind.wrap .u64 (s15 - 1)))
  else rec s2 s8 s9 s10 s11 s13 s14 (IntKind.wrap .u64 (s15 - 1)) (IntKind.wrap .u64 (s16 + s9)))
 else bif decide ((IntKind.wrap .u64 (s15 * s10)) > (IntKind.wrap .u64 ((IntKind.wrap .u64 (4294967296 * s16)) + s13))) then (bif decide ((IntKind.wrap .u64 (s16 + s9)) ≥ 4294967296) then some (s2, s8, s9, s10, s11, s13, s14, (IntKind.wrap .u64 (s15 - 1)))
  else rec s2 s8 s9 s10 s11 s13 s14 (IntKind.wrap .u64 (s15 - 1)) (IntKind.wrap .u64 (s16 + s9)))
 else some (s2, s8, s9, s10, s11, s13, s14, s15)
def qE3 (k : Nat) : Nat → qB1 := vG (fun _ _ _ _ _ _ _ _ _ => none) (yFv k)
abbrev zYb : Type := Int × Int × Int × Int × Int × Int
abbrev qMd : Type := Int → Int → Int → Int → Int → Int → Int → Int → Int → Option zYb
def yE7 (k : Nat) (rec : qMd) (s2 s8 s9 s10 s14 s15 s16 s17 s18 : Int) : Option zYb :=
 bif decide (s18 ≥ 4294967296) then (bif decide ((IntKind.wrap .u64 (s16 + s9)) ≥ 4294967296) then some (s2, s8, s14, s15, s17, (IntKind.wrap .u64 (s18 - 1)))
  else rec s2 s8 s9 s10 s14 s15 (IntKind.wrap .u64 (s16 + s9)) s17 (IntKind.wrap .u64 (s18 - 1)))
 else bif decide ((IntKind.wrap .u64 (s18 * s10)) > (IntKind.wrap .u64 ((IntKind.wrap .u64 (4294967296 * s16)) + s14))) then (bif decide ((IntKind.wrap .u64 (s16 + s9)) ≥ 4294967296) then some (s2, s8, s14, s15, s17, (IntKind.wrap .u64 (s18 - 1)))
  else rec s2 s8 s9 s10 s14 s15 (IntKind.wrap .u64 (s16 + s9)) s17 (IntKind.wrap .u64 (s18 - 1)))
 else some (s2, s8, s14, s15, s17, s18)
def qH7 (k : Nat) : Nat → qMd := vG (fun _ _ _ _ _ _ _ _ _ => none) (yE7 k)
def zTs (k : Nat) (a0 a1 a2 : Int) : Option vX :=
 bif decide (a2 = 0) then none
 else bif decide (a2 ≤ a0) then none
 else bif decide (a0 = 0) then (bif !(decide (a2 = 0)) then (bif !(decide (a2 = 0)) then some ((IntKind.wrap .u64 (Int.tdiv a1 a2)), (Int.tmod a1 a2))
   else none)
  else none)
 else (qU9 k a2).bind fun x0 =>
 bif !(decide ((IntKind.wrap .u64 (x0)) < 0)) then (bif !(decide ((IntKind.wrap .u64 (x0)) < 0)) then (bif !(decide ((IntKind.wrap .u64 (64 - (IntKind.wrap .u64 (x0)))) < 0)) then (bif !(decide ((IntKind.wrap .u64 (x0)) < 0)) then (bif !(decide ((shr .u64 (shl .u64 a2 (IntKind.wrap .u64 (x0))) 32) = 0)) then ((qE3 k k (shl .u64 a2 (IntKind.wrap .u64 (x0))) (IntKind.wrap .u64 (x0)) (shr .u64 (shl .u64 a2 (IntKind.wrap .u64 (x0))) 32) (zAm .u64 (shl .u64 a2 (IntKind.wrap .u64 (x0))) 4294967295) (bor .u64 (shl .u64 a0 (IntKind.wrap .u64 (x0))) (shr .u64 a1 (IntKind.wrap .u64 (64 - (IntKind.wrap .u64 (x0)))))) (shr .u64 (shl .u64 a1 (IntKind.wrap .u64 (x0))) 32) (zAm .u64 (shl .u64 a1 (IntKind.wrap .u64 (x0))) 4294967295) (IntKind.wrap .u64 (Int.tdiv (bor .u64 (shl .u64 a0 (IntKind.wrap .u64 (x0))) (shr .u64 a1 (IntKind.wrap .u64 (64 - (IntKind.wrap .u64 (x0)))))) (shr .u64 (shl .u64 a2 (IntKind.wrap .u64 (x0))) 32))) (IntKind.wrap .u64 ((bor .u64 (shl .u64 a0 (IntKind.wrap .u64 (x0))) (shr .u64 a1 (IntKind.wrap .u64 (64 - (IntKind.wrap .u64 (x0)))))) - (IntKind.wrap .u64 ((IntKind.wrap .u64 (Int.tdiv (bor .u64 (shl .u64 a0 (IntKind.wrap .u64 (x0))) (shr .u64 a1 (IntKind.wrap .u64 (64 - (IntKind.wrap .u64 (x0)))))) (shr .u64 (shl .u64 a2 (IntKind.wrap .u64 (x0))) 32))) * (shr .u64 (shl .u64 a2 (IntKind.wrap .u64 (x0))) 32)))))).bind fun z =>
      bif !(decide (z.2.2.1 = 0)) then ((qH7 k k z.1 z.2.1 z.2.2.1 z.2.2.2.1 z.2.2.2.2.2.2.1 z.2.2.2.2.2.2.2 (IntKind.wrap .u64 ((IntKind.wrap .u64 ((IntKind.wrap .u64 ((IntKind.wrap .u64 (z.2.2.2.2.1 * 4294967296)) + z.2.2.2.2.2.1)) - (IntKind.wrap .u64 (z.2.2.2.2.2.2.2 * z.1)))) - (IntKind.wrap .u64 ((IntKind.wrap .u64 (Int.tdiv (IntKind.wrap .u64 ((IntKind.wrap .u64 ((IntKind.wrap .u64 (z.2.2.2.2.1 * 4294967296)) + z.2.2.2.2.2.1)) - (IntKind.wrap .u64 (z.2.2.2.2.2.2.2 * z.1)))) z.2.2.1)) * z.2.2.1)))) (IntKind.wrap .u64 ((IntKind.wrap .u64 ((IntKind.wrap .u64 (z.2.2.2.2.1 * 4294967296)) + z.2.2.2.2.2.1)) - (IntKind.wrap .u64 (z.2.2.2.2.2.2.2 * z.1)))) (IntKind.wrap .u64 (Int.tdiv (IntKind.wrap .u64 ((IntKind.wrap .u64 ((IntKind.wrap .u64 (z.2.2.2.2.1 * 4294967296)) + z.2.2.2.2.2.1)) - (IntKind.wrap .u64 (z.2.2.2.2.2.2.2 * z.1)))) z.2.2.1))).bind fun z1 =>
       bif !(decide (z1.2.1 < 0)) then some ((IntKind.wrap .u64 ((IntKind.wrap .u64 (z1.2.2.2.1 * 4294967296)) + z1.2.2.2.2.2)), (shr .u64 (IntKind.wrap .u64 ((IntKind.wrap .u64 ((IntKind.wrap .u64 (z1.2.2.2.2.1 * 4294967296)) + z1.2.2.1)) - (IntKind.wrap .u64 (z1.2.2.2.2.2 * z1.1)))) z1.2.1))
       else none)
      else none)
     else none)
    else none)
   else none)
  else none)
 else none
def zWi (k : Nat) (a0 a1 a2 : Int) : Option (Int × Bool) :=
 bif decide (a0 < 0) then some (0, false)
 else bif decide (a1 < 0) then some (0, false)
 else (qCf k a2).bind fun x0 =>
 bif !x0 then some (0, false)
 else (zP8 k (IntKind.wrap .u64 (a0)) (IntKind.wrap .u64 (a1))).bind fun x1 =>
 (zTs k (Int.tmod x1.1 10000) x1.2 10000).bind fun x2 =>
 (zP8 k x2.1 (IntKind.wrap .u64 ((zC (10000 - a2))))).bind fun x3 =>
 (zIr k x3.2 (IntKind.wrap .u64 (Int.tdiv (IntKind.wrap .u64 (x2.2 * (IntKind.wrap .u64 ((zC (10000 - a2)))))) 10000)) 0).bind fun x4 =>
 bif decide ((IntKind.wrap .u64 (Int.tdiv x1.1 10000)) > 0) then (bif decide ((IntKind.wrap .u64 ((zC (10000 - a2)))) > 0) then some (0, false)
  else bif decide ((IntKind.wrap .u64 (x3.1 + x4.2)) > 0) then some (0, false)
  else bif decide (x4.1 > 9223372036854775807) then some (0, false)
  else some ((zC (x4.1)), true))
 else bif decide ((IntKind.wrap .u64 (x3.1 + x4.2)) > 0) then some (0, false)
 else bif decide (x4.1 > 9223372036854775807) then some (0, false)
 else some ((zC (x4.1)), true)
abbrev qEm : Type := Int → Int → List Int → Int → Int → Option vX
def zLr (k : Nat) (rec : qEm) (s4 s5 : Int) (s9 : List Int) (s10 s11 : Int) : Option vX :=
 bif decide (s11 < s10) then (bif zE s11 s9.length then ((zIr k s5 (IntKind.wrap .u64 ((s9.getD s11.toNat 0))) 0).bind fun x0 =>
   rec (zC (s4 + (zC ((shr .i64 (s9.getD s11.toNat 0) 63) + (zC (x0.2)))))) x0.1 s9 s10 (zC (s11 + 1)))
  else none)
 else some (s4, s5)
def zI9 (k : Nat) : Nat → qEm
 | 0, _, _, _, _, _ => none
 | n + 1, s4, s5, s9, s10, s11 => zLr k (zI9 k n) s4 s5 s9 s10 s11
def zP9 (k : Nat) (a0 : List Int) : Option (Int × Bool) :=
 (zI9 k k 0 0 a0 (a0.length : Int) 0).bind fun z =>
 bif !(decide (z.1 = (shr .i64 (zC (z.2)) 63))) then some (0, false)
 else some ((zC (z.2)), true)
abbrev qKw : Type := List Int → List Int → List vX → Int → Int → List Int → Option ((List Int) ⊕ (Int × Bool))
def zLv (k : Nat) (rec : qKw) (s1 s2 : List Int) (s25 : List vX) (s26 s27 : Int) (r0 : List Int) : Option ((List Int) ⊕ (Int × Bool)) :=
 bif decide (s27 < s26) then (bif zE s27 s25.length then (bif zE s27 s1.length then (bif zE s27 s2.length then ((zWi k (s1.getD s27.toNat 0) (s2.getD s27.toNat 0) (s25.getD s27.toNat (0, 0)).2).bind fun x0 =>
     bif !x0.2 then some (.inr (0, false))
     else bif zY (r0.length + 1) 8 then (rec s1 s2 s25 s26 (zC (s27 + 1)) (r0 ++ [x0.1]))
     else none)
    else none)
   else none)
  else none)
 else some (.inl r0)
def zMw (k : Nat) : Nat → qKw := vG (fun _ _ _ _ _ _ => none) (zLv k)
def zEc (k : Nat) (a0 : List vX) (a1 a2 : List Int) : Option (Int × Bool) :=
 bif !(decide ((a1.length : Int) = (a0.length : Int))) then some (0, false)
 else bif !(decide ((a2.length : Int) = (a0.length : Int))) then some (0, false)
 else (zMw k k a1 a2 a0 (a0.length : Int) 0 []).bind fun z =>
 match z with
 | .inl z1 => (zP9 k z1).bind fun x1 =>
  some (x1.1, x1.2)
 | .inr z2 => some (z2.1, z2.2)
def zU2 (k : Nat) (a0 : wD) (a1 a2 : Int) : Option (Int × wD) :=
 (zRk k a0 a1).bind fun x0 =>
 bif !x0 then some (1, a0)
 else (yR k a2 0 1099511627776).bind fun x1 =>
 bif !x1 then some (1, a0)
 else (zNo k a0.2.2.2.2.2.2.2.2.2.2.2.1).bind fun x2 =>
 bif zE a0.2.2.2.2.2.2.2.2.2.2.2.2.2.2.2.2.1 x2.length then ((zDp k (x2.getD a0.2.2.2.2.2.2.2.2.2.2.2.2.2.2.2.2.1.toNat []) a1 a2).bind fun x3 =>
  bif zE a0.2.2.2.2.2.2.2.2.2.2.2.2.2.2.2.2.1 x2.length then (let y0 : List (List Int) := (x2.set a0.2.2.2.2.2.2.2.2.2.2.2.2.2.2.2.2.1.toNat x3)
   bif zE a0.2.2.2.2.2.2.2.2.2.2.2.2.2.2.2.2.1 y0.length then ((zEc k a0.2.1 a0.2.2.2.2.2.2.2.2.2.2.1 (y0.getD a0.2.2.2.2.2.2.2.2.2.2.2.2.2.2.2.2.1.toNat [])).bind fun x4 =>
    bif zE a0.2.2.2.2.2.2.2.2.2.2.2.2.2.2.2.2.1 a0.2.2.2.2.2.2.1.length then (bif !x4.2 then some (8, a0)
     else bif decide (x4.1 > 1152921504606846976) then some (8, a0)
     else bif decide (x4.1 < (a0.2.2.2.2.2.2.1.getD a0.2.2.2.2.2.2.2.2.2.2.2.2.2.2.2.2.1.toNat (0, 0, 0)).2.1) then (bif decide ((zC ((a0.2.2.2.2.2.2.1.getD a0.2.2.2.2.2.2.2.2.2.2.2.2.2.2.2.2.1.toNat (0, 0, 0)).1 + x4.1)) < 0) then some (9, a0)
      else (jS k a0.2.2.2.2.2.2.1 a0.2.2.2.2.2.2.2.1 a0.2.2.2.2.2.2.2.2.1 a0.2.2.2.2.2.2.2.2.2.1).bind fun x5 =>
      bif zE a0.2.2.2.2.2.2.2.2.2.2.2.2.2.2.2.2.1 x5.1.length then (let y1 : List zQ := (x5.1.set a0.2.2.2.2.2.2.2.2.2.2.2.2.2.2.2.2.1.toNat ((x5.1.getD a0.2.2.2.2.2.2.2.2.2.2.2.2.2.2.2.2.1.toNat (0, 0, 0)).1, x4.1, (x5.1.getD a0.2.2.2.2.2.2.2.2.2.2.2.2.2.2.2.2.1.toNat (0, 0, 0)).2.2))
       some (0, (zAl a0 (y1, x5.2.1, x5.2.2.1, x5.2.2.2, a0.2.2.2.2.2.2.2.2.2.2.1, y0, a0.2.2.2.2.2.2.2.2.2.2.2.2))))
      else none)
     else (jS k a0.2.2.2.2.2.2.1 a0.2.2.2.2.2.2.2.1 a0.2.2.2.2.2.2.2.2.1 a0.2.2.2.2.2.2.2.2.2.1).bind fun x6 =>
     bif zE a0.2.2.2.2.2.2.2.2.2.2.2.2.2.2.2.2.1 x6.1.length then (let y2 : List zQ := (x6.1.set a0.2.2.2.2.2.2.2.2.2.2.2.2.2.2.2.2.1.toNat ((x6.1.getD a0.2.2.2.2.2.2.2.2.2.2.2.2.2.2.2.2.1.toNat (0, 0, 0)).1, x4.1, (x6.1.getD a0.2.2.2.2.2.2.2.2.2.2.2.2.2.2.2.2.1.toNat (0, 0, 0)).2.2))
      some (0, (zAl a0 (y2, x6.2.1, x6.2.2.1, x6.2.2.2, a0.2.2.2.2.2.2.2.2.2.2.1, y0, a0.2.2.2.2.2.2.2.2.2.2.2.2))))
     else none)
    else none)
   else none)
  else none)
 else none
def zLg (k : Nat) (a0 a1 : Int) : Option (Int × Bool) :=
 bif decide (a1 > 0) then (bif decide (a0 > (zC (9223372036854775807 - a1))) then some (0, false)
  else bif decide (a1 < 0) then (bif decide (a0 < (zC ((-9223372036854775808) - a1))) then some (0, false)
   else some ((zC (a0 + a1)), true))
  else some ((zC (a0 + a1)), true))
 else bif decide (a1 < 0) then (bif decide (a0 < (zC ((-9223372036854775808) - a1))) then some (0, false)
  else some ((zC (a0 + a1)), true))
 else some ((zC (a0 + a1)), true)
def zZb (k : Nat) (vHx vHy vHz : Int) : Option Bool :=
 bif decide (vHx > (-4611686018427387904)) then (bif decide (vHx < 4611686018427387904) then (bif decide (vHy ≥ 0) then (bif decide (vHy ≤ 2305843009213693952) then (bif decide (vHz ≥ 0) then some (decide (vHz ≤ 2305843009213693952))
     else some false)
    else some false)
   else some false)
  else some false)
 else some false
def zRb (k : Nat) (a0 : zQ) (a1 : Int) : Option (zQ × Int) :=
 (zLg k a0.1 a1).bind fun x0 =>
 bif !x0.2 then some (a0, 8)
 else (zZb k x0.1 a0.2.1 a0.2.2).bind fun x1 =>
 bif !x1 then some (a0, 8)
 else some ((x0.1, a0.2), 0)
def zJ5 (k : Nat) (a0 : zQ) (a1 : Int) : Option (zQ × Int) :=
 (zRb k a0 a1).bind fun x0 =>
 some (x0.1, x0.2)
def zGh (k : Nat) (vHx vHy vHz a1 : Int) : Option Int :=
 some (vZ false (zC (vHz - a1)) 0)
def zK3 (k : Nat) (a0 : zQ) (a1 a2 : Int) : Option (zQ × Int) :=
 (zRb k a0 (zC (0 - a1))).bind fun x0 =>
 bif decide (x0.2 = 0) then (bif decide (a2 = 1) then ((zGh k a0.1 a0.2.1 a0.2.2 a1).bind fun x1 =>
   some ((x0.1.1, x0.1.2.1, x1), x0.2))
  else bif decide (a2 = 2) then ((zGh k a0.1 a0.2.1 a0.2.2 a1).bind fun x2 =>
   some ((x0.1.1, x0.1.2.1, x2), x0.2))
  else some (x0.1, x0.2))
 else some (x0.1, x0.2)
def zL6 (k : Nat) (a0 : zQ) (a1 : Int) : Option Int :=
 bif decide (a1 = 3) then some (zC ((zC (a0.1 + a0.2.1)) - a0.2.2))
 else some (zC (a0.1 + a0.2.1))
def qF2 (k : Nat) (a0 : wD) (a1 a2 a3 : Int) : Option (Int × wD) :=
 (yR k a2 0 (zC (a0.1 - 1))).bind fun x0 =>
 bif !x0 then some (1, a0)
 else (yR k a3 1 1099511627776).bind fun x1 =>
 bif !x1 then some (1, a0)
 else bif zE a2 a0.2.2.2.2.2.2.1.length then ((zJ5 k (a0.2.2.2.2.2.2.1.getD a2.toNat (0, 0, 0)) a3).bind fun x2 =>
  bif decide (a1 = 11) then ((zK3 k (a0.2.2.2.2.2.2.1.getD a2.toNat (0, 0, 0)) a3 3).bind fun x3 =>
   (zL6 k (a0.2.2.2.2.2.2.1.getD a2.toNat (0, 0, 0)) 3).bind fun x4 =>
   bif decide (x4 < a3) then some (9, a0)
   else bif decide ((zC (a0.2.2.2.2.2.2.2.2.2.2.2.2.2.2.1 - a3)) < 0) then some (9, a0)
   else bif !(decide (x3.2 = 0)) then some (x3.2, a0)
   else bif decide ((zC (a0.2.2.2.2.2.2.2.2.2.2.2.2.2.2.1 - a3)) > 1152921504606846976) then some (8, a0)
   else (jS k a0.2.2.2.2.2.2.1 a0.2.2.2.2.2.2.2.1 a0.2.2.2.2.2.2.2.2.1 a0.2.2.2.2.2.2.2.2.2.1).bind fun x5 =>
   bif zE a2 x5.1.length then some (0, (zAl a0 ((x5.1.set a2.toNat x3.1), x5.2.1, x5.2.2.1, x5.2.2.2, (zXo a0 ((zC (a0.2.2.2.2.2.2.2.2.2.2.2.2.2.2.1 - a3)), a0.2.2.2.2.2.2.2.2.2.2.2.2.2.2.2)))))
   else none)
  else bif !(decide (x2.2 = 0)) then some (x2.2, a0)
  else bif decide ((zC (a0.2.2.2.2.2.2.2.2.2.2.2.2.2.2.1 + a3)) > 1152921504606846976) then some (8, a0)
  else (jS k a0.2.2.2.2.2.2.1 a0.2.2.2.2.2.2.2.1 a0.2.2.2.2.2.2.2.2.1 a0.2.2.2.2.2.2.2.2.2.1).bind fun x6 =>
  bif zE a2 x6.1.length then some (0, (zAl a0 ((x6.1.set a2.toNat x2.1), x6.2.1, x6.2.2.1, x6.2.2.2, (zXo a0 ((zC (a0.2.2.2.2.2.2.2.2.2.2.2.2.2.2.1 + a3)), a0.2.2.2.2.2.2.2.2.2.2.2.2.2.2.2)))))
  else none)
 else none
abbrev zYr : Type := (zBl × (List qJ) × (List Int) × (List zQ) × (List (List Int)) × (List Int) × (List (List Int))) ⊕ (Int × zBl × (List qJ))
abbrev qF9 : Type := List (List Int) → Int → Int → zBl → List qJ → List Int → List zQ → List (List Int) → List Int → List (List Int) → Option zYr
def qSt (k : Nat) (rec : qF9) (s40 : List (List Int)) (s41 s42 : Int) (b0 : zBl) (r1 : List qJ) (r2 : List Int) (r4 : List zQ) (m5 : List (List Int)) (r6 : List Int) (m7 : List (List Int)) : Option zYr :=
 bif decide (s42 < s41) then (bif zE s42 s40.length then ((zEc k b0.2.1 r2 (s40.getD s42.toNat [])).bind fun x4 =>
   bif !x4.2 then some (.inr (8, b0, r1))
   else bif decide (x4.1 > 1152921504606846976) then some (.inr (8, b0, r1))
   else bif zE s42 r4.length then (let y0 : List zQ := (r4.set s42.toNat ((r4.getD s42.toNat (0, 0, 0)).1, x4.1, (r4.getD s42.toNat (0, 0, 0)).2.2))
    rec s40 s41 (zC (s42 + 1)) b0 r1 r2 y0 m5 r6 m7)
   else none)
  else none)
 else some (.inl (b0, r1, r2, r4, m5, r6, m7))
def qAo (k : Nat) : Nat → qF9 := vG (fun _ _ _ _ _ _ _ _ _ _ => none) (qSt k)
def qRn (k : Nat) (a0 : wD) (a1 a2 : Int) : Option (Int × wD) :=
 (zRk k a0 a1).bind fun x0 =>
 bif !x0 then some (1, a0)
 else (yR k a2 0 1048576).bind fun x1 =>
 bif !x1 then some (1, a0)
 else (zDp k a0.2.2.2.2.2.2.2.2.2.2.1 a1 a2).bind fun x2 =>
 (jS k a0.2.2.2.2.2.2.1 a0.2.2.2.2.2.2.2.1 a0.2.2.2.2.2.2.2.2.1 a0.2.2.2.2.2.2.2.2.2.1).bind fun x3 =>
 (qAo k k a0.2.2.2.2.2.2.2.2.2.2.2.1 (a0.2.2.2.2.2.2.2.2.2.2.2.1.length : Int) 0 (zBi a0) a0.2.2.2.2.2.2.2.2.2.2.2.2.2.2.2.2.2 x2 x3.1 x3.2.1 x3.2.2.1 x3.2.2.2).bind fun z =>
 match z with
 | .inl z1 => some (0, (zAl z1.1 (yT1 z1 (z1.2.2.1, (qJ0 z1.1 z1.2.1)))))
 | .inr z2 => some (z2.1, (yY z2.2.1 z2.2.2))
def zSn (k : Nat) (a0 : wD) (a1 : zF) : Option (Int × wD) :=
 bif decide (a1.1 = 1) then ((zXv k a0 a1.2).bind fun x0 =>
  some (x0.1, x0.2))
 else bif decide (a1.1 = 2) then ((zHk k a0 a1).bind fun x1 =>
  some (x1.1, x1.2))
 else bif decide (a1.1 = 3) then ((zHk k a0 a1).bind fun x2 =>
  some (x2.1, x2.2))
 else bif decide (a1.1 = 4) then ((zHk k a0 a1).bind fun x3 =>
  some (x3.1, x3.2))
 else bif decide (a1.1 = 5) then ((zIu k a0 a1).bind fun x4 =>
  some (x4.1, x4.2))
 else bif decide (a1.1 = 6) then ((zIu k a0 a1).bind fun x5 =>
  some (x5.1, x5.2))
 else bif decide (a1.1 = 7) then ((zIu k a0 a1).bind fun x6 =>
  some (x6.1, x6.2))
 else bif decide (a1.1 = 8) then ((zU2 k a0 a1.2.1 a1.2.2.1).bind fun x7 =>
  some (x7.1, x7.2))
 else bif decide (a1.1 = 10) then ((qF2 k a0 a1.1 a1.2.1 a1.2.2.1).bind fun x8 =>
  some (x8.1, x8.2))
 else bif decide (a1.1 = 11) then ((qF2 k a0 a1.1 a1.2.1 a1.2.2.1).bind fun x9 =>
  some (x9.1, x9.2))
 else bif decide (a1.1 = 12) then ((qRn k a0 a1.2.1 a1.2.2.1).bind fun x10 =>
  some (x10.1, x10.2))
 else some (0, a0)
def zSh (k : Nat) (a0Parties : Int) (a0Assets : List vX) (a0Cutoff a0Close a0Period a1 : Int) : Option Bool :=
 some (decide (a1 = a0Close))
def zDi (k : Nat) (a0 a1 : Int) (a2 : List Int) : Option qJ :=
 some (a0, a1, (bif (Nat.blt 0 a2.length) then (a2.getD 0 0) else 0), (bif (Nat.blt 1 a2.length) then (a2.getD 1 0) else 0), (bif (Nat.blt 2 a2.length) then (a2.getD 2 0) else 0), (bif (Nat.blt 3 a2.length) then (a2.getD 3 0) else 0), (bif (Nat.blt 4 a2.length) then (a2.getD 4 0) else 0), (bif (Nat.blt 5 a2.length) then (a2.getD 5 0) else 0))
abbrev zW2 : Type := Int × (List zQ) × (List (List Int)) × (List Int) × (List (List Int)) × (List Int) × (List (List Int)) × (List zF) × (List Int) × Int × Bool × Int × Int × Bool × (List qJ)
abbrev qIf : Type := List zF → Int → Int → Int → List zQ → List (List Int) → List Int → List (List Int) → List Int → List (List Int) → List zF → List Int → Int → Bool → Int → Int → Bool → List qJ → Option zW2
def zL9 (k : Nat) (rec : qIf) (s10 : List zF) (s11 s12 b0_0 : Int) (b0_1 : List zQ) (b0_2 : List (List Int)) (b0_3 : List Int) (b0_4 : List (List Int)) (b0_5 : List Int) (b0_6 : List (List Int)) (b0_7 : List zF) (b0_8 : List Int) (b0_9 : Int) (b0_10 : Bool) (b1_0 b1_9 : Int) (b1_10 : Bool) (r2 : List qJ) : Option zW2 :=
 bif decide (s12 < s11) then (bif zE s12 s10.length then ((zDi k (s10.getD s12.toNat (0, 0, 0, 0, 0, 0, 0)).2.1 22 [(s10.getD s12.toNat (0, 0, 0, 0, 0, 0, 0)).1]).bind fun x0 =>
   bif zY (r2.length + 1) 64 then (rec s10 s11 (zC (s12 + 1)) b0_0 b0_1 b0_2 b0_3 b0_4 b0_5 b0_6 b0_7 b0_8 b0_9 b0_10 b1_0 b1_9 b1_10 (r2 ++ [x0]))
   else none)
  else none)
 else some (b0_0, b0_1, b0_2, b0_3, b0_4, b0_5, b0_6, b0_7, b0_8, b0_9, b0_10, b1_0, b1_9, b1_10, r2)
def zJv (k : Nat) : Nat → qIf
 | 0, _, _, _, _, _, _, _, _, _, _, _, _, _, _, _, _, _, _ => none
 | n + 1, s10, s11, s12, b0_0, b0_1, b0_2, b0_3, b0_4, b0_5, b0_6, b0_7, b0_8, b0_9, b0_10, b1_0, b1_9, b1_10, r2 => zL9 k (zJv k n) s10 s11 s12 b0_0 b0_1 b0_2 b0_3 b0_4 b0_5 b0_6 b0_7 b0_8 b0_9 b0_10 b1_0 b1_9 b1_10 r2
abbrev zYo : Type := Int × (List zQ) × (List (List Int)) × (List Int) × (List (List Int)) × (List Int) × (List (List Int)) × (List zF) × (List Int) × Int × Bool × Int × Int × Bool × (List qJ)
abbrev qBe : Type := List zQ → Int → Int → Int → List zQ → List (List Int) → List Int → List (List Int) → List Int → List (List Int) → List zF → List Int → Int → Bool → Int → Int → Bool → List qJ → Option zYo
def zMq (k : Nat) (rec : qBe) (s28 : List zQ) (s29 s30 b0_0 : Int) (b0_1 : List zQ) (b0_2 : List (List Int)) (b0_3 : List Int) (b0_4 : List (List Int)) (b0_5 : List Int) (b0_6 : List (List Int)) (b0_7 : List zF) (b0_8 : List Int) (b0_9 : Int) (b0_10 : Bool) (b1_0 b1_9 : Int) (b1_10 : Bool) (r2 : List qJ) : Option zYo :=
 bif decide (s30 < s29) then (bif zE s30 s28.length then ((zDi k s30 23 [(s28.getD s30.toNat (0, 0, 0)).1]).bind fun x1 =>
   bif zY (r2.length + 1) 64 then (rec s28 s29 (zC (s30 + 1)) b0_0 b0_1 b0_2 b0_3 b0_4 b0_5 b0_6 b0_7 b0_8 b0_9 b0_10 b1_0 b1_9 b1_10 (r2 ++ [x1]))
   else none)
  else none)
 else some (b0_0, b0_1, b0_2, b0_3, b0_4, b0_5, b0_6, b0_7, b0_8, b0_9, b0_10, b1_0, b1_9, b1_10, r2)
def zJb (k : Nat) : Nat → qBe
 | 0, _, _, _, _, _, _, _, _, _, _, _, _, _, _, _, _, _, _ => none
 | n + 1, s28, s29, s30, b0_0, b0_1, b0_2, b0_3, b0_4, b0_5, b0_6, b0_7, b0_8, b0_9, b0_10, b1_0, b1_9, b1_10, r2 => zMq k (zJb k n) s28 s29 s30 b0_0 b0_1 b0_2 b0_3 b0_4 b0_5 b0_6 b0_7 b0_8 b0_9 b0_10 b1_0 b1_9 b1_10 r2
def zUu (k : Nat) (a0Tick : Int) (a0BooksAccts : List zQ) (a0BooksBil : List (List Int)) (a0BooksMul : List Int) (a0BooksPos : List (List Int)) (a0Prices : List Int) (a0Holds : List (List Int)) (a0Pays : List zF) (a0IDs : List Int) (a0Total : Int) (a0Over : Bool) : Option qKm :=
 (zJv k k a0Pays (a0Pays.length : Int) 0 a0Tick a0BooksAccts a0BooksBil a0BooksMul a0BooksPos a0Prices a0Holds a0Pays a0IDs a0Total a0Over 0 0 false []).bind fun z =>
 (zJb k k z.2.1 (z.2.1.length : Int) 0 z.1 z.2.1 z.2.2.1 z.2.2.2.1 z.2.2.2.2.1 z.2.2.2.2.2.1 z.2.2.2.2.2.2.1 z.2.2.2.2.2.2.2.1 z.2.2.2.2.2.2.2.2.1 z.2.2.2.2.2.2.2.2.2.1 z.2.2.2.2.2.2.2.2.2.2.1 z.2.2.2.2.2.2.2.2.2.2.2.1 z.2.2.2.2.2.2.2.2.2.2.2.2.1 z.2.2.2.2.2.2.2.2.2.2.2.2.2.1 z.2.2.2.2.2.2.2.2.2.2.2.2.2.2).bind fun z1 =>
 some (zJi z1 ([], z1.2.2.2.2.2.2.2.2.1, z1.2.2.2.2.2.2.2.2.2.1, true, z1.2.2.2.2.2.2.2.2.2.2.2.2.2.2))
def qC6 (k : Nat) (a0ID a0From a0To a0Amount a0Class a0Start a0Till a1 : Int) : Option Bool :=
 some (decide (a1 > a0Till))
def zS1 (k : Nat) (a0Parties : Int) (a0Assets : List vX) (a0Cutoff a0Close a0Period a1 : Int) : Option Bool :=
 bif decide (a1 > 0) then (bif decide (a1 < a0Close) then (bif !(decide (a0Period = 0)) then some (decide ((Int.tmod a1 a0Period) = 0))
   else none)
  else some false)
 else some false
def qA4 (k : Nat) (a0ID a0From a0To a0Amount a0Class a0Start a0Till a1 : Int) : Option Bool :=
 bif decide (a1 ≥ a0Start) then some (decide (a1 ≤ a0Till))
 else some false
def qOs (k : Nat) (a0ID a0From a0To a0Amount a0Class a0Start a0Till a1 : Int) : Option Bool :=
 (qA4 k a0ID a0From a0To a0Amount a0Class a0Start a0Till a1).bind fun x0 =>
 some x0
abbrev zUl : Type := List zF
abbrev qDw : Type := List zF → Int → Int → Int → List zF → Option zUl
def zNq (k : Nat) (rec : qDw) (s8 : List zF) (s9 s10 b0_0 : Int) (r1 : List zF) : Option zUl :=
 bif decide (s10 < s9) then (bif zE s10 s8.length then ((qOs k (s8.getD s10.toNat (0, 0, 0, 0, 0, 0, 0)).1 (s8.getD s10.toNat (0, 0, 0, 0, 0, 0, 0)).2.1 (s8.getD s10.toNat (0, 0, 0, 0, 0, 0, 0)).2.2.1 (s8.getD s10.toNat (0, 0, 0, 0, 0, 0, 0)).2.2.2.1 (s8.getD s10.toNat (0, 0, 0, 0, 0, 0, 0)).2.2.2.2.1 (s8.getD s10.toNat (0, 0, 0, 0, 0, 0, 0)).2.2.2.2.2.1 (s8.getD s10.toNat (0, 0, 0, 0, 0, 0, 0)).2.2.2.2.2.2 b0_0).bind fun x0 =>
   bif x0 then (bif zY (r1.length + 1) 56 then (let y0 : List zF := (r1 ++ [(s8.getD s10.toNat (0, 0, 0, 0, 0, 0, 0))])
     rec s8 s9 (zC (s10 + 1)) b0_0 y0)
    else none)
   else rec s8 s9 (zC (s10 + 1)) b0_0 r1)
  else none)
 else some r1
def zPp (k : Nat) : Nat → qDw
 | 0, _, _, _, _, _ => none
 | n + 1, s8, s9, s10, b0_0, r1 => zNq k (zPp k n) s8 s9 s10 b0_0 r1
def qNr (k : Nat) (a0 : List zF) (a1_0 : Int) : Option (List zF) :=
 (zPp k k a0 (a0.length : Int) 0 a1_0 []).bind fun z =>
 some z
def zM3 (k : Nat) (a0 : List zF) (a1 : Int) : Option (List zF) :=
 (qNr k a0 a1).bind fun x0 =>
 some x0
def qM5 (k : Nat) (a0ID a0From a0To a0Amount a0Class a0Start a0Till a1ID a1From a1To a1Amount a1Class a1Start a1Till : Int) : Option Bool :=
 bif decide (a0From = a1From) then some (!(decide (a0Class = 3)))
 else some false
abbrev qMa : Type := List zF → Int → Int → Int → Int → Int → Int → Int → Int → Int → Option (Unit ⊕ Int)
def zL3 (k : Nat) (rec : qMa) (s0 : List zF) (s7 s8 b0_0 b0_1 b0_2 b0_3 b0_4 b0_5 b0_6 : Int) : Option (Unit ⊕ Int) :=
 bif decide (s8 < s7) then (bif zE s8 s0.length then ((qM5 k (s0.getD s8.toNat (0, 0, 0, 0, 0, 0, 0)).1 (s0.getD s8.toNat (0, 0, 0, 0, 0, 0, 0)).2.1 (s0.getD s8.toNat (0, 0, 0, 0, 0, 0, 0)).2.2.1 (s0.getD s8.toNat (0, 0, 0, 0, 0, 0, 0)).2.2.2.1 (s0.getD s8.toNat (0, 0, 0, 0, 0, 0, 0)).2.2.2.2.1 (s0.getD s8.toNat (0, 0, 0, 0, 0, 0, 0)).2.2.2.2.2.1 (s0.getD s8.toNat (0, 0, 0, 0, 0, 0, 0)).2.2.2.2.2.2 b0_0 b0_1 b0_2 b0_3 b0_4 b0_5 b0_6).bind fun x0 =>
   bif x0 then some (.inr s8)
   else rec s0 s7 (zC (s8 + 1)) b0_0 b0_1 b0_2 b0_3 b0_4 b0_5 b0_6)
  else none)
 else some (.inl ())
def zJu (k : Nat) : Nat → qMa
 | 0, _, _, _, _, _, _, _, _, _, _ => none
 | n + 1, s0, s7, s8, b0_0, b0_1, b0_2, b0_3, b0_4, b0_5, b0_6 => zL3 k (zJu k n) s0 s7 s8 b0_0 b0_1 b0_2 b0_3 b0_4 b0_5 b0_6
def qO0 (k : Nat) (a0 : List zF) (a1_0ID a1_0From a1_0To a1_0Amount a1_0Class a1_0Start a1_0Till : Int) : Option Int :=
 (zJu k k a0 (a0.length : Int) 0 a1_0ID a1_0From a1_0To a1_0Amount a1_0Class a1_0Start a1_0Till).bind fun z =>
 match z with
 | .inl z1 => some (-1)
 | .inr z2 => some z2
def zXw (k : Nat) (a0 : List zF) (a1_0ID a1_0From a1_0To a1_0Amount a1_0Class a1_0Start a1_0Till : Int) : Option Bool :=
 (qO0 k a0 a1_0ID a1_0From a1_0To a1_0Amount a1_0Class a1_0Start a1_0Till).bind fun x0 =>
 some (decide (x0 ≥ 0))
def qIw (k : Nat) (a0ID a0From a0To a0Amount a0Class a0Start a0Till : Int) (a1 : List (Int × Bool)) (a2 : List zF) : Option (Bool × (List (Int × Bool))) :=
 bif !(Option.getD (List.lookup a0From a1) false) then some (true, ((a0From, true) :: a1))
 else bif decide (a0Class = 3) then ((zXw k a2 a0ID a0From a0To a0Amount a0Class a0Start a0Till).bind fun x0 =>
  some ((!x0), ((a0From, true) :: a1)))
 else some (false, ((a0From, true) :: a1))
abbrev zTk : Type := (List (Int × Bool)) × (List zF) × (List zF)
abbrev qAu : Type := List zF → Int → Int → List (Int × Bool) → List zF → List zF → Option zTk
def zK2 (k : Nat) (rec : qAu) (s8 : List zF) (s9 s10 : Int) (p1 : List (Int × Bool)) (b2_0 r3 : List zF) : Option zTk :=
 bif decide (s10 < s9) then (bif zE s10 s8.length then ((qIw k (s8.getD s10.toNat (0, 0, 0, 0, 0, 0, 0)).1 (s8.getD s10.toNat (0, 0, 0, 0, 0, 0, 0)).2.1 (s8.getD s10.toNat (0, 0, 0, 0, 0, 0, 0)).2.2.1 (s8.getD s10.toNat (0, 0, 0, 0, 0, 0, 0)).2.2.2.1 (s8.getD s10.toNat (0, 0, 0, 0, 0, 0, 0)).2.2.2.2.1 (s8.getD s10.toNat (0, 0, 0, 0, 0, 0, 0)).2.2.2.2.2.1 (s8.getD s10.toNat (0, 0, 0, 0, 0, 0, 0)).2.2.2.2.2.2 p1 b2_0).bind fun x0 =>
   bif x0.1 then (bif zY (r3.length + 1) 56 then (let y0 : List zF := (r3 ++ [(s8.getD s10.toNat (0, 0, 0, 0, 0, 0, 0))])
     rec s8 s9 (zC (s10 + 1)) x0.2 b2_0 y0)
    else none)
   else rec s8 s9 (zC (s10 + 1)) x0.2 b2_0 r3)
  else none)
 else some (p1, b2_0, r3)
def zKa (k : Nat) : Nat → qAu
 | 0, _, _, _, _, _, _ => none
 | n + 1, s8, s9, s10, p1, b2_0, r3 => zK2 k (zKa k n) s8 s9 s10 p1 b2_0 r3
def qFd (k : Nat) (a0 : List zF) (a1_0 : List (Int × Bool)) (a1_1 : List zF) : Option ((List zF) × (List (Int × Bool))) :=
 (zKa k k a0 (a0.length : Int) 0 a1_0 a1_1 []).bind fun z =>
 some (z.2.2, z.1)
def zQe (k : Nat) (a0 : List zF) (a1 : Int) : Option (List zF) :=
 (zM3 k a0 a1).bind fun x0 =>
 (qFd k x0 [] x0).bind fun x1 =>
 some x1.1
def zI5 (k : Nat) (vH0 : List zQ) (vH1 : List (List Int)) (vH2 : List Int) (vH3 : List (List Int)) (a1ID a1From a1To a1Amount a1Class a1Start a1Till : Int) : Option Bool :=
 bif decide (a1From ≥ 0) then (bif decide (a1From < (vH0.length : Int)) then (bif decide (a1To ≥ 0) then (bif decide (a1To < (vH0.length : Int)) then (bif !(decide (a1From = a1To)) then (bif decide (a1Amount ≥ 1) then (bif decide (a1Amount ≤ 1099511627776) then (bif decide (a1Class ≥ 1) then some (decide (a1Class ≤ 3))
        else some false)
       else some false)
      else some false)
     else some false)
    else some false)
   else some false)
  else some false)
 else some false
def qG8 (k : Nat) (a0ID a0From a0To a0Amount a0Class a0Start a0Till : Int) (vH4 : List zQ) (vH5 : List (List Int)) (vH6 : List Int) (vH7 : List (List Int)) : Option Bool :=
 (zI5 k vH4 vH5 vH6 vH7 a0ID a0From a0To a0Amount a0Class a0Start a0Till).bind fun x0 =>
 some (!x0)
abbrev qBn : Type := List zF → Int → Int → List zQ → List (List Int) → List Int → List (List Int) → Option (Unit ⊕ Int)
def zM6 (k : Nat) (rec : qBn) (s0 : List zF) (s7 s8 : Int) (b0_0 : List zQ) (b0_1 : List (List Int)) (b0_2 : List Int) (b0_3 : List (List Int)) : Option (Unit ⊕ Int) :=
 bif decide (s8 < s7) then (bif zE s8 s0.length then ((qG8 k (s0.getD s8.toNat (0, 0, 0, 0, 0, 0, 0)).1 (s0.getD s8.toNat (0, 0, 0, 0, 0, 0, 0)).2.1 (s0.getD s8.toNat (0, 0, 0, 0, 0, 0, 0)).2.2.1 (s0.getD s8.toNat (0, 0, 0, 0, 0, 0, 0)).2.2.2.1 (s0.getD s8.toNat (0, 0, 0, 0, 0, 0, 0)).2.2.2.2.1 (s0.getD s8.toNat (0, 0, 0, 0, 0, 0, 0)).2.2.2.2.2.1 (s0.getD s8.toNat (0, 0, 0, 0, 0, 0, 0)).2.2.2.2.2.2 b0_0 b0_1 b0_2 b0_3).bind fun x0 =>
   bif x0 then some (.inr s8)
   else rec s0 s7 (zC (s8 + 1)) b0_0 b0_1 b0_2 b0_3)
  else none)
 else some (.inl ())
def zQc (k : Nat) : Nat → qBn
 | 0, _, _, _, _, _, _, _ => none
 | n + 1, s0, s7, s8, b0_0, b0_1, b0_2, b0_3 => zM6 k (zQc k n) s0 s7 s8 b0_0 b0_1 b0_2 b0_3
def qDf (k : Nat) (a0 : List zF) (a1_0Accts : List zQ) (a1_0Bil : List (List Int)) (a1_0Mul : List Int) (a1_0Pos : List (List Int)) : Option Int :=
 (zQc k k a0 (a0.length : Int) 0 a1_0Accts a1_0Bil a1_0Mul a1_0Pos).bind fun z =>
 match z with
 | .inl z1 => some (-1)
 | .inr z2 => some z2
def zWd (k : Nat) (a0 : List zF) (a1_0Accts : List zQ) (a1_0Bil : List (List Int)) (a1_0Mul : List Int) (a1_0Pos : List (List Int)) : Option Bool :=
 (qDf k a0 a1_0Accts a1_0Bil a1_0Mul a1_0Pos).bind fun x0 =>
 some (decide (x0 ≥ 0))
abbrev zX7 : Type := (List Int) × (List Int) × (List (List Int))
abbrev qHt : Type := List zF → Int → Int → List Int → List Int → List (List Int) → Option zX7
def zNk (k : Nat) (rec : qHt) (s15 : List zF) (s16 s17 : Int) (r2 r3 : List Int) (m4 : List (List Int)) : Option zX7 :=
 bif decide (s17 < s16) then (bif zE s17 s15.length then (bif zE (s15.getD s17.toNat (0, 0, 0, 0, 0, 0, 0)).2.1 r2.length then (bif zE (s15.getD s17.toNat (0, 0, 0, 0, 0, 0, 0)).2.1 r2.length then (let y0 : List Int := (r2.set (s15.getD s17.toNat (0, 0, 0, 0, 0, 0, 0)).2.1.toNat (zC ((r2.getD (s15.getD s17.toNat (0, 0, 0, 0, 0, 0, 0)).2.1.toNat 0) - (s15.getD s17.toNat (0, 0, 0, 0, 0, 0, 0)).2.2.2.1)))
     bif zE (s15.getD s17.toNat (0, 0, 0, 0, 0, 0, 0)).2.2.1 y0.length then (bif zE (s15.getD s17.toNat (0, 0, 0, 0, 0, 0, 0)).2.2.1 y0.length then (let y1 : List Int := (y0.set (s15.getD s17.toNat (0, 0, 0, 0, 0, 0, 0)).2.2.1.toNat (zC ((y0.getD (s15.getD s17.toNat (0, 0, 0, 0, 0, 0, 0)).2.2.1.toNat 0) + (s15.getD s17.toNat (0, 0, 0, 0, 0, 0, 0)).2.2.2.1)))
       bif zE (s15.getD s17.toNat (0, 0, 0, 0, 0, 0, 0)).2.1 m4.length then (bif zE (s15.getD s17.toNat (0, 0, 0, 0, 0, 0, 0)).2.2.1 (m4.getD (s15.getD s17.toNat (0, 0, 0, 0, 0, 0, 0)).2.1.toNat []).length then (bif zE (s15.getD s17.toNat (0, 0, 0, 0, 0, 0, 0)).2.2.1 (m4.getD (s15.getD s17.toNat (0, 0, 0, 0, 0, 0, 0)).2.1.toNat []).length then (let y2 : List (List Int) := (m4.set (s15.getD s17.toNat (0, 0, 0, 0, 0, 0, 0)).2.1.toNat ((m4.getD (s15.getD s17.toNat (0, 0, 0, 0, 0, 0, 0)).2.1.toNat []).set (s15.getD s17.toNat (0, 0, 0, 0, 0, 0, 0)).2.2.1.toNat (zC (((m4.getD (s15.getD s17.toNat (0, 0, 0, 0, 0, 0, 0)).2.1.toNat []).getD (s15.getD s17.toNat (0, 0, 0, 0, 0, 0, 0)).2.2.1.toNat 0) + (s15.getD s17.toNat (0, 0, 0, 0, 0, 0, 0)).2.2.2.1))))
          bif zE (s15.getD s17.toNat (0, 0, 0, 0, 0, 0, 0)).2.2.1 y2.length then (bif zE (s15.getD s17.toNat (0, 0, 0, 0, 0, 0, 0)).2.1 (y2.getD (s15.getD s17.toNat (0, 0, 0, 0, 0, 0, 0)).2.2.1.toNat []).length then (bif zE (s15.getD s17.toNat (0, 0, 0, 0, 0, 0, 0)).2.1 (y2.getD (s15.getD s17.toNat (0, 0, 0, 0, 0, 0, 0)).2.2.1.toNat []).length then (let y3 : List (List Int) := (y2.set (s15.getD s17.toNat (0, 0, 0, 0, 0, 0, 0)).2.2.1.toNat ((y2.getD (s15.getD s17.toNat (0, 0, 0, 0, 0, 0, 0)).2.2.1.toNat []).set (s15.getD s17.toNat (0, 0, 0, 0, 0, 0, 0)).2.1.toNat (zC (((y2.getD (s15.getD s17.toNat (0, 0, 0, 0, 0, 0, 0)).2.2.1.toNat []).getD (s15.getD s17.toNat (0, 0, 0, 0, 0, 0, 0)).2.1.toNat 0) - (s15.getD s17.toNat (0, 0, 0, 0, 0, 0, 0)).2.2.2.1))))
             bif !(decide ((s15.getD s17.toNat (0, 0, 0, 0, 0, 0, 0)).2.2.2.2.1 = 3)) then (bif zE (s15.getD s17.toNat (0, 0, 0, 0, 0, 0, 0)).2.1 r3.length then (bif zE (s15.getD s17.toNat (0, 0, 0, 0, 0, 0, 0)).2.1 r3.length then (let y4 : List Int := (r3.set (s15.getD s17.toNat (0, 0, 0, 0, 0, 0, 0)).2.1.toNat (zC ((r3.getD (s15.getD s17.toNat (0, 0, 0, 0, 0, 0, 0)).2.1.toNat 0) + (s15.getD s17.toNat (0, 0, 0, 0, 0, 0, 0)).2.2.2.1)))
                rec s15 s16 (zC (s17 + 1)) y1 y4 y3)
               else none)
              else none)
             else rec s15 s16 (zC (s17 + 1)) y1 r3 y3)
            else none)
           else none)
          else none)
         else none)
        else none)
       else none)
      else none)
     else none)
    else none)
   else none)
  else none)
 else some (r2, r3, m4)
def zJs (k : Nat) : Nat → qHt
 | 0, _, _, _, _, _, _ => none
 | n + 1, s15, s16, s17, r2, r3, m4 => zNk k (zJs k n) s15 s16 s17 r2 r3 m4
def zSu (k : Nat) (a0 : Int) (a1 : List zF) : Option ((List Int) × (List Int) × (List (List Int))) :=
 (zH6 k a0 0).bind fun x0 =>
 (zH6 k a0 0).bind fun x1 =>
 (zJ1 k a0 0).bind fun x2 =>
 (zJs k k a1 (a1.length : Int) 0 x0 x1 x2).bind fun z =>
 some (z.1, z.2.1, z.2.2)
def qMs (k : Nat) (a0ID a0From a0To a0Amount a0Class a0Start a0Till a1 : Int) : Option Bool :=
 some (decide (a0From = a1))
abbrev qI6 : Type := List zF → Int → Int → Int → Option (Unit ⊕ Int)
def zM1 (k : Nat) (rec : qI6) (s0 : List zF) (s7 s8 b0_0 : Int) : Option (Unit ⊕ Int) :=
 bif decide (s8 < s7) then (bif zE s8 s0.length then ((qMs k (s0.getD s8.toNat (0, 0, 0, 0, 0, 0, 0)).1 (s0.getD s8.toNat (0, 0, 0, 0, 0, 0, 0)).2.1 (s0.getD s8.toNat (0, 0, 0, 0, 0, 0, 0)).2.2.1 (s0.getD s8.toNat (0, 0, 0, 0, 0, 0, 0)).2.2.2.1 (s0.getD s8.toNat (0, 0, 0, 0, 0, 0, 0)).2.2.2.2.1 (s0.getD s8.toNat (0, 0, 0, 0, 0, 0, 0)).2.2.2.2.2.1 (s0.getD s8.toNat (0, 0, 0, 0, 0, 0, 0)).2.2.2.2.2.2 b0_0).bind fun x0 =>
   bif x0 then some (.inr s8)
   else rec s0 s7 (zC (s8 + 1)) b0_0)
  else none)
 else some (.inl ())
def zQa (k : Nat) : Nat → qI6
 | 0, _, _, _, _ => none
 | n + 1, s0, s7, s8, b0_0 => zM1 k (zQa k n) s0 s7 s8 b0_0
def qAt (k : Nat) (a0 : List zF) (a1_0 : Int) : Option Int :=
 (zQa k k a0 (a0.length : Int) 0 a1_0).bind fun z =>
 match z with
 | .inl z1 => some (-1)
 | .inr z2 => some z2
def zUw (k : Nat) (a0 : List zF) (a1_0 : Int) : Option Bool :=
 (qAt k a0 a1_0).bind fun x0 =>
 some (decide (x0 ≥ 0))
def zLd (k : Nat) (rec : Int → List Int → Int → Int → Option Int) (s5 : Int) (s12 : List Int) (s13 s14 : Int) : Option Int :=
 bif decide (s14 < s13) then (bif zE s14 s12.length then (rec (zC (s5 + (s12.getD s14.toNat 0))) s12 s13 (zC (s14 + 1)))
  else none)
 else some s5
def zLt (k : Nat) : Nat → Int → List Int → Int → Int → Option Int
 | 0, _, _, _, _ => none
 | n + 1, s5, s12, s13, s14 => zLd k (zLt k n) s5 s12 s13 s14
def zTx (k : Nat) (vH0 : List zQ) (vH1 : List (List Int)) (vH2 : List Int) (vH3 : List (List Int)) (a1 : Int) : Option Int :=
 bif zE a1 vH3.length then ((zLt k k 0 (vH3.getD a1.toNat []) ((vH3.getD a1.toNat []).length : Int) 0).bind fun z =>
  some z)
 else none
def zJt (k : Nat) (a0 a1 : Int) : Option Bool :=
 bif !(decide (a1 = (-1))) then some (decide (a0 > a1))
 else some false
def qE0 (k : Nat) (a0ID a0From a0To a0Amount a0Class a0Start a0Till a1 a2Balance a2Credit a2Reserve : Int) (a3more a3spent : List Int) (a3sent : List (List Int)) (a4 : Int) (a5Accts : List zQ) (a5Bil : List (List Int)) (a5Mul : List Int) (a5Pos : List (List Int)) : Option Bool :=
 bif !(decide (a0From = a1)) then some false
 else bif zE a1 a3spent.length then ((zGh k a2Balance a2Credit a2Reserve (a3spent.getD a1.toNat 0)).bind fun x0 =>
  bif decide (a0Class = 3) then (bif decide (a4 < x0) then some true
   else bif zE a1 a5Pos.length then (bif zE a0To (a5Pos.getD a1.toNat []).length then (bif zE a1 a3sent.length then (bif zE a0To (a3sent.getD a1.toNat []).length then (bif zE a1 a5Bil.length then (bif zE a0To (a5Bil.getD a1.toNat []).length then ((zJt k (zC (((a5Pos.getD a1.toNat []).getD a0To.toNat 0) + ((a3sent.getD a1.toNat []).getD a0To.toNat 0))) ((a5Bil.getD a1.toNat []).getD a0To.toNat 0)).bind fun x1 =>
         some x1)
        else none)
       else none)
      else none)
     else none)
    else none)
   else none)
  else bif zE a1 a5Pos.length then (bif zE a0To (a5Pos.getD a1.toNat []).length then (bif zE a1 a3sent.length then (bif zE a0To (a3sent.getD a1.toNat []).length then (bif zE a1 a5Bil.length then (bif zE a0To (a5Bil.getD a1.toNat []).length then ((zJt k (zC (((a5Pos.getD a1.toNat []).getD a0To.toNat 0) + ((a3sent.getD a1.toNat []).getD a0To.toNat 0))) ((a5Bil.getD a1.toNat []).getD a0To.toNat 0)).bind fun x2 =>
        some x2)
       else none)
      else none)
     else none)
    else none)
   else none)
  else none)
 else none
abbrev zZz : Type := List zF → Int → Int → Int → Int → Int → Int → List Int → List Int → List (List Int) → Int → List zQ → List (List Int) → List Int → List (List Int) → Option (Unit ⊕ Int)
def zMo (k : Nat) (rec : zZz) (s0 : List zF) (s7 s8 b0_0 b1_0 b1_1 b1_2 : Int) (b2_0 b2_1 : List Int) (b2_2 : List (List Int)) (b3_0 : Int) (b4_0 : List zQ) (b4_1 : List (List Int)) (b4_2 : List Int) (b4_3 : List (List Int)) : Option (Unit ⊕ Int) :=
 bif decide (s8 < s7) then (bif zE s8 s0.length then ((qE0 k (s0.getD s8.toNat (0, 0, 0, 0, 0, 0, 0)).1 (s0.getD s8.toNat (0, 0, 0, 0, 0, 0, 0)).2.1 (s0.getD s8.toNat (0, 0, 0, 0, 0, 0, 0)).2.2.1 (s0.getD s8.toNat (0, 0, 0, 0, 0, 0, 0)).2.2.2.1 (s0.getD s8.toNat (0, 0, 0, 0, 0, 0, 0)).2.2.2.2.1 (s0.getD s8.toNat (0, 0, 0, 0, 0, 0, 0)).2.2.2.2.2.1 (s0.getD s8.toNat (0, 0, 0, 0, 0, 0, 0)).2.2.2.2.2.2 b0_0 b1_0 b1_1 b1_2 b2_0 b2_1 b2_2 b3_0 b4_0 b4_1 b4_2 b4_3).bind fun x0 =>
   bif x0 then some (.inr s8)
   else rec s0 s7 (zC (s8 + 1)) b0_0 b1_0 b1_1 b1_2 b2_0 b2_1 b2_2 b3_0 b4_0 b4_1 b4_2 b4_3)
  else none)
 else some (.inl ())
def zRq (k : Nat) : Nat → zZz
 | 0, _, _, _, _, _, _, _, _, _, _, _, _, _, _, _ => none
 | n + 1, s0, s7, s8, b0_0, b1_0, b1_1, b1_2, b2_0, b2_1, b2_2, b3_0, b4_0, b4_1, b4_2, b4_3 => zMo k (zRq k n) s0 s7 s8 b0_0 b1_0 b1_1 b1_2 b2_0 b2_1 b2_2 b3_0 b4_0 b4_1 b4_2 b4_3
def qHc (k : Nat) (a0 : List zF) (a1_0 a1_1Balance a1_1Credit a1_1Reserve : Int) (a1_2more a1_2spent : List Int) (a1_2sent : List (List Int)) (a1_3 : Int) (a1_4Accts : List zQ) (a1_4Bil : List (List Int)) (a1_4Mul : List Int) (a1_4Pos : List (List Int)) : Option Int :=
 (zRq k k a0 (a0.length : Int) 0 a1_0 a1_1Balance a1_1Credit a1_1Reserve a1_2more a1_2spent a1_2sent a1_3 a1_4Accts a1_4Bil a1_4Mul a1_4Pos).bind fun z =>
 match z with
 | .inl z1 => some (-1)
 | .inr z2 => some z2
def zXx (k : Nat) (a0 : List zF) (a1_0 a1_1Balance a1_1Credit a1_1Reserve : Int) (a1_2more a1_2spent : List Int) (a1_2sent : List (List Int)) (a1_3 : Int) (a1_4Accts : List zQ) (a1_4Bil : List (List Int)) (a1_4Mul : List Int) (a1_4Pos : List (List Int)) : Option Bool :=
 (qHc k a0 a1_0 a1_1Balance a1_1Credit a1_1Reserve a1_2more a1_2spent a1_2sent a1_3 a1_4Accts a1_4Bil a1_4Mul a1_4Pos).bind fun x0 =>
 some (decide (x0 ≥ 0))
abbrev zSd : Type := (List zF) × Int × (List Int) × (List Int) × (List (List Int)) × (List zQ) × (List (List Int)) × (List Int) × (List (List Int)) × Int × Int × Int × Int × Int
abbrev qEj : Type := List zF → Int → List Int → Int → Int → List Int → List Int → List (List Int) → List zQ → List (List Int) → List Int → List (List Int) → Int → Int → Int → Int → Int → Option zSd
def zNs (k : Nat) (rec : qEj) (s3 : List zF) (s11 : Int) (s39 : List Int) (s40 s41 : Int) (b0_0 b0_1 : List Int) (b0_2 : List (List Int)) (b1_0 : List zQ) (b1_1 : List (List Int)) (b1_2 : List Int) (b1_3 : List (List Int)) (b2_0 b3_0 b3_1 b3_2 b4_0 : Int) : Option zSd :=
 bif decide (s41 < s40) then (bif zE s41 s39.length then (rec s3 (zC (s11 + (s39.getD s41.toNat 0))) s39 s40 (zC (s41 + 1)) b0_0 b0_1 b0_2 b1_0 b1_1 b1_2 b1_3 b2_0 b3_0 b3_1 b3_2 b4_0)
  else none)
 else some (s3, s11, b0_0, b0_1, b0_2, b1_0, b1_1, b1_2, b1_3, b2_0, b3_0, b3_1, b3_2, b4_0)
def zIq (k : Nat) : Nat → qEj
 | 0, _, _, _, _, _, _, _, _, _, _, _, _, _, _, _, _, _ => none
 | n + 1, s3, s11, s39, s40, s41, b0_0, b0_1, b0_2, b1_0, b1_1, b1_2, b1_3, b2_0, b3_0, b3_1, b3_2, b4_0 => zNs k (zIq k n) s3 s11 s39 s40 s41 b0_0 b0_1 b0_2 b1_0 b1_1 b1_2 b1_3 b2_0 b3_0 b3_1 b3_2 b4_0
def zYj (k : Nat) (a0more a0spent : List Int) (a0sent : List (List Int)) (vH4 : List zQ) (vH5 : List (List Int)) (vH6 : List Int) (vH7 : List (List Int)) (a2 : Int) (a3 : List zF) : Option Bool :=
 bif zE a2 vH4.length then (bif zE a2 a0more.length then (bif decide ((zC ((zC ((vH4.getD a2.toNat (0, 0, 0)).1 + (vH4.getD a2.toNat (0, 0, 0)).2.1)) + (a0more.getD a2.toNat 0))) < 0) then some true
   else (zTx k vH4 vH5 vH6 vH7 a2).bind fun x0 =>
   bif zE a2 a0sent.length then ((zIq k k a3 x0 (a0sent.getD a2.toNat []) ((a0sent.getD a2.toNat []).length : Int) 0 a0more a0spent a0sent vH4 vH5 vH6 vH7 a2 (vH4.getD a2.toNat (0, 0, 0)).1 (vH4.getD a2.toNat (0, 0, 0)).2.1 (vH4.getD a2.toNat (0, 0, 0)).2.2 (zC ((zC ((vH4.getD a2.toNat (0, 0, 0)).1 + (vH4.getD a2.toNat (0, 0, 0)).2.1)) + (a0more.getD a2.toNat 0)))).bind fun z =>
    bif zE z.2.2.2.2.2.2.2.2.2.1 z.2.2.2.2.2.2.2.1.length then ((zJt k z.2.1 (z.2.2.2.2.2.2.2.1.getD z.2.2.2.2.2.2.2.2.2.1.toNat 0)).bind fun x1 =>
     bif x1 then some true
     else (zXx k z.1 z.2.2.2.2.2.2.2.2.2.1 z.2.2.2.2.2.2.2.2.2.2.1 z.2.2.2.2.2.2.2.2.2.2.2.1 z.2.2.2.2.2.2.2.2.2.2.2.2.1 z.2.2.1 z.2.2.2.1 z.2.2.2.2.1 z.2.2.2.2.2.2.2.2.2.2.2.2.2 z.2.2.2.2.2.1 z.2.2.2.2.2.2.1 z.2.2.2.2.2.2.2.1 z.2.2.2.2.2.2.2.2.1).bind fun x2 =>
     some x2)
    else none)
   else none)
  else none)
 else none
abbrev qK9 : Type := List zF → Int → Int → List zQ → List (List Int) → List Int → List (List Int) → List Int → List Int → List (List Int) → List Int → Option (List Int)
def zJn (k : Nat) (rec : qK9) (s1 : List zF) (s16 s17 : Int) (b0_0 : List zQ) (b0_1 : List (List Int)) (b0_2 : List Int) (b0_3 : List (List Int)) (r2 r3 : List Int) (m4 : List (List Int)) (r5 : List Int) : Option (List Int) :=
 bif decide (s17 < s16) then ((zUw k s1 s17).bind fun x1 =>
  bif x1 then ((zYj k r2 r3 m4 b0_0 b0_1 b0_2 b0_3 s17 s1).bind fun x2 =>
   bif x2 then (bif zY (r5.length + 1) 8 then (rec s1 s16 (zC (s17 + 1)) b0_0 b0_1 b0_2 b0_3 r2 r3 m4 (r5 ++ [s17]))
    else none)
   else rec s1 s16 (zC (s17 + 1)) b0_0 b0_1 b0_2 b0_3 r2 r3 m4 r5)
  else rec s1 s16 (zC (s17 + 1)) b0_0 b0_1 b0_2 b0_3 r2 r3 m4 r5)
 else some r5
def zMp (k : Nat) : Nat → qK9
 | 0, _, _, _, _, _, _, _, _, _, _, _ => none
 | n + 1, s1, s16, s17, b0_0, b0_1, b0_2, b0_3, r2, r3, m4, r5 => zJn k (zMp k n) s1 s16 s17 b0_0 b0_1 b0_2 b0_3 r2 r3 m4 r5
def zH7 (k : Nat) (vH0 : List zQ) (vH1 : List (List Int)) (vH2 : List Int) (vH3 : List (List Int)) (a1 : List zF) : Option (List Int) :=
 (zSu k (vH0.length : Int) a1).bind fun x0 =>
 (zMp k k a1 (vH0.length : Int) 0 vH0 vH1 vH2 vH3 x0.1 x0.2.1 x0.2.2 []).bind fun z =>
 some z
def zHq (k : Nat) (vH0 : List zQ) (vH1 : List (List Int)) (vH2 : List Int) (vH3 : List (List Int)) (a1 : List zF) : Option Bool :=
 bif decide ((a1.length : Int) ≤ 64) then ((zWd k a1 vH0 vH1 vH2 vH3).bind fun x0 =>
  bif !x0 then ((zH7 k vH0 vH1 vH2 vH3 a1).bind fun x1 =>
   some (decide ((x1.length : Int) = 0)))
  else some false)
 else some false
def qHh (k : Nat) (a0ID a0From a0To a0Amount a0Class a0Start a0Till : Int) (vH4 : List zQ) (vH5 : List (List Int)) (vH6 : List Int) (vH7 : List (List Int)) : Option Bool :=
 (zI5 k vH4 vH5 vH6 vH7 a0ID a0From a0To a0Amount a0Class a0Start a0Till).bind fun x0 =>
 some (!x0)
abbrev qMi : Type := List zF → Int → Int → List zQ → List (List Int) → List Int → List (List Int) → Option (Unit ⊕ Int)
def zMy (k : Nat) (rec : qMi) (s0 : List zF) (s7 s8 : Int) (b0_0 : List zQ) (b0_1 : List (List Int)) (b0_2 : List Int) (b0_3 : List (List Int)) : Option (Unit ⊕ Int) :=
 bif decide (s8 < s7) then (bif zE s8 s0.length then ((qHh k (s0.getD s8.toNat (0, 0, 0, 0, 0, 0, 0)).1 (s0.getD s8.toNat (0, 0, 0, 0, 0, 0, 0)).2.1 (s0.getD s8.toNat (0, 0, 0, 0, 0, 0, 0)).2.2.1 (s0.getD s8.toNat (0, 0, 0, 0, 0, 0, 0)).2.2.2.1 (s0.getD s8.toNat (0, 0, 0, 0, 0, 0, 0)).2.2.2.2.1 (s0.getD s8.toNat (0, 0, 0, 0, 0, 0, 0)).2.2.2.2.2.1 (s0.getD s8.toNat (0, 0, 0, 0, 0, 0, 0)).2.2.2.2.2.2 b0_0 b0_1 b0_2 b0_3).bind fun x0 =>
   bif x0 then some (.inr s8)
   else rec s0 s7 (zC (s8 + 1)) b0_0 b0_1 b0_2 b0_3)
  else none)
 else some (.inl ())
def zPc (k : Nat) : Nat → qMi
 | 0, _, _, _, _, _, _, _ => none
 | n + 1, s0, s7, s8, b0_0, b0_1, b0_2, b0_3 => zMy k (zPc k n) s0 s7 s8 b0_0 b0_1 b0_2 b0_3
def qAl (k : Nat) (a0 : List zF) (a1_0Accts : List zQ) (a1_0Bil : List (List Int)) (a1_0Mul : List Int) (a1_0Pos : List (List Int)) : Option Int :=
 (zPc k k a0 (a0.length : Int) 0 a1_0Accts a1_0Bil a1_0Mul a1_0Pos).bind fun z =>
 match z with
 | .inl z1 => some (-1)
 | .inr z2 => some z2
def zXz (k : Nat) (a0 : List zF) (a1_0Accts : List zQ) (a1_0Bil : List (List Int)) (a1_0Mul : List Int) (a1_0Pos : List (List Int)) : Option Bool :=
 (qAl k a0 a1_0Accts a1_0Bil a1_0Mul a1_0Pos).bind fun x0 =>
 some (decide (x0 ≥ 0))
def qD7 (k : Nat) (vHx vHy vHz : Int) : Option Bool :=
 (zZb k vHx vHy vHz).bind fun x0 =>
 some (!x0)
abbrev qEo : Type := List zQ → Int → Int → Option (Unit ⊕ Int)
def zI8 (k : Nat) (rec : qEo) (s0 : List zQ) (s7 s8 : Int) : Option (Unit ⊕ Int) :=
 bif decide (s8 < s7) then (bif zE s8 s0.length then ((qD7 k (s0.getD s8.toNat (0, 0, 0)).1 (s0.getD s8.toNat (0, 0, 0)).2.1 (s0.getD s8.toNat (0, 0, 0)).2.2).bind fun x0 =>
   bif x0 then some (.inr s8)
   else rec s0 s7 (zC (s8 + 1)))
  else none)
 else some (.inl ())
def zPv (k : Nat) : Nat → qEo
 | 0, _, _, _ => none
 | n + 1, s0, s7, s8 => zI8 k (zPv k n) s0 s7 s8
def qDe (k : Nat) (a0 : List zQ) : Option Int :=
 (zPv k k a0 (a0.length : Int) 0).bind fun z =>
 match z with
 | .inl z1 => some (-1)
 | .inr z2 => some z2
def zZd (k : Nat) (a0 : List zQ) : Option Bool :=
 (qDe k a0).bind fun x0 =>
 some (decide (x0 ≥ 0))
def qKt (k : Nat) (a0 : Int) : Option Bool :=
 bif decide (a0 ≥ (-1)) then some (decide (a0 ≤ 2305843009213693952))
 else some false
def qBw (k : Nat) (a0 : Int) : Option Bool :=
 (qKt k a0).bind fun x0 =>
 some (!x0)
abbrev qNg : Type := List Int → Int → Int → Option (Unit ⊕ Int)
def zKg (k : Nat) (rec : qNg) (s0 : List Int) (s7 s8 : Int) : Option (Unit ⊕ Int) :=
 bif decide (s8 < s7) then (bif zE s8 s0.length then ((qBw k (s0.getD s8.toNat 0)).bind fun x0 =>
   bif x0 then some (.inr s8)
   else rec s0 s7 (zC (s8 + 1)))
  else none)
 else some (.inl ())
def zO5 (k : Nat) : Nat → qNg
 | 0, _, _, _ => none
 | n + 1, s0, s7, s8 => zKg k (zO5 k n) s0 s7 s8
def qDt (k : Nat) (a0 : List Int) : Option Int :=
 (zO5 k k a0 (a0.length : Int) 0).bind fun z =>
 match z with
 | .inl z1 => some (-1)
 | .inr z2 => some z2
def zWp (k : Nat) (a0 : List Int) : Option Bool :=
 (qDt k a0).bind fun x0 =>
 some (decide (x0 ≥ 0))
def zOj (k : Nat) (a0 : List Int) (a1 : Int) : Option Bool :=
 bif decide ((a0.length : Int) = a1) then ((zWp k a0).bind fun x0 =>
  some (!x0))
 else some false
abbrev qCt : Type := Int → List (List Int) → Int → Int → Option (Unit ⊕ Bool)
def zK1 (k : Nat) (rec : qCt) (s1 : Int) (s13 : List (List Int)) (s14 s15 : Int) : Option (Unit ⊕ Bool) :=
 bif decide (s15 < s14) then (bif zE s15 s13.length then ((zOj k (s13.getD s15.toNat []) s1).bind fun x0 =>
   bif !x0 then some (.inr false)
   else rec s1 s13 s14 (zC (s15 + 1)))
  else none)
 else some (.inl ())
def zPl (k : Nat) : Nat → qCt
 | 0, _, _, _, _ => none
 | n + 1, s1, s13, s14, s15 => zK1 k (zPl k n) s1 s13 s14 s15
def zW0 (k : Nat) (a0 : List (List Int)) (a1 : Int) : Option Bool :=
 bif !(decide ((a0.length : Int) = a1)) then some false
 else (zPl k k a1 a0 (a0.length : Int) 0).bind fun z =>
 match z with
 | .inl z1 => some true
 | .inr z2 => some z2
def zSk (k : Nat) (a0 : Int) : Option Bool :=
 bif decide (a0 > (-72057594037927936)) then some (decide (a0 < 72057594037927936))
 else some false
def qGl (k : Nat) (a0 : Int) : Option Bool :=
 (zSk k a0).bind fun x0 =>
 some (!x0)
abbrev qEf : Type := List Int → Int → Int → Option (Unit ⊕ Int)
def zKv (k : Nat) (rec : qEf) (s0 : List Int) (s7 s8 : Int) : Option (Unit ⊕ Int) :=
 bif decide (s8 < s7) then (bif zE s8 s0.length then ((qGl k (s0.getD s8.toNat 0)).bind fun x0 =>
   bif x0 then some (.inr s8)
   else rec s0 s7 (zC (s8 + 1)))
  else none)
 else some (.inl ())
def zRw (k : Nat) : Nat → qEf
 | 0, _, _, _ => none
 | n + 1, s0, s7, s8 => zKv k (zRw k n) s0 s7 s8
def qNx (k : Nat) (a0 : List Int) : Option Int :=
 (zRw k k a0 (a0.length : Int) 0).bind fun z =>
 match z with
 | .inl z1 => some (-1)
 | .inr z2 => some z2
def zYm (k : Nat) (a0 : List Int) : Option Bool :=
 (qNx k a0).bind fun x0 =>
 some (decide (x0 ≥ 0))
def zVr (k : Nat) (a0 : List Int) (a1 : Int) : Option Bool :=
 bif decide ((a0.length : Int) = a1) then ((zYm k a0).bind fun x0 =>
  some (!x0))
 else some false
abbrev qL2 : Type := Int → List (List Int) → Int → Int → Option (Unit ⊕ Bool)
def zKb (k : Nat) (rec : qL2) (s1 : Int) (s13 : List (List Int)) (s14 s15 : Int) : Option (Unit ⊕ Bool) :=
 bif decide (s15 < s14) then (bif zE s15 s13.length then ((zVr k (s13.getD s15.toNat []) s1).bind fun x0 =>
   bif !x0 then some (.inr false)
   else rec s1 s13 s14 (zC (s15 + 1)))
  else none)
 else some (.inl ())
def zQ1 (k : Nat) : Nat → qL2
 | 0, _, _, _, _ => none
 | n + 1, s1, s13, s14, s15 => zKb k (zQ1 k n) s1 s13 s14 s15
def zWz (k : Nat) (a0 : List (List Int)) (a1 : Int) : Option Bool :=
 bif !(decide ((a0.length : Int) = a1)) then some false
 else (zQ1 k k a1 a0 (a0.length : Int) 0).bind fun z =>
 match z with
 | .inl z1 => some true
 | .inr z2 => some z2
abbrev zWh : Type := ((List (List Int)) × (List (List Int)) × Int × Int) ⊕ Bool
abbrev qM2 : Type := List (List Int) → Int → List (List Int) → Int → Int → List Int → Int → Int → Option zWh
def zJ4 (k : Nat) (rec : qM2) (s0 : List (List Int)) (s3 : Int) (s7 : List (List Int)) (s8 s9 : Int) (s14 : List Int) (s15 s16 : Int) : Option zWh :=
 bif decide (s16 < s15) then (bif zE s16 s14.length then (bif zE s16 s0.length then (bif zE s3 (s0.getD s16.toNat []).length then (bif !(decide (((s0.getD s16.toNat []).getD s3.toNat 0) = (zC (0 - (s14.getD s16.toNat 0))))) then some (.inr false)
     else rec s0 s3 s7 s8 s9 s14 s15 (zC (s16 + 1)))
    else none)
   else none)
  else none)
 else some (.inl (s0, s7, s8, s9))
def zKi (k : Nat) : Nat → qM2
 | 0, _, _, _, _, _, _, _, _ => none
 | n + 1, s0, s3, s7, s8, s9, s14, s15, s16 => zJ4 k (zKi k n) s0 s3 s7 s8 s9 s14 s15 s16
abbrev qOj : Type := List (List Int) → List (List Int) → Int → Int → Option (Unit ⊕ Bool)
def zK9 (k : Nat) (rec : qOj) (s0 s7 : List (List Int)) (s8 s9 : Int) : Option (Unit ⊕ Bool) :=
 bif decide (s9 < s8) then (bif zE s9 s7.length then ((zKi k k s0 s9 s7 s8 s9 (s7.getD s9.toNat []) ((s7.getD s9.toNat []).length : Int) 0).bind fun z =>
   match z with
   | .inl z1 => rec z1.1 z1.2.1 z1.2.2.1 (zC (z1.2.2.2 + 1))
   | .inr z2 => some (.inr z2))
  else none)
 else some (.inl ())
def zN2 (k : Nat) : Nat → qOj
 | 0, _, _, _, _ => none
 | n + 1, s0, s7, s8, s9 => zK9 k (zN2 k n) s0 s7 s8 s9
def zSr (k : Nat) (a0 : List (List Int)) : Option Bool :=
 (zN2 k k a0 a0 (a0.length : Int) 0).bind fun z3 =>
 match z3 with
 | .inl z4 => some true
 | .inr z5 => some z5
def zQ0 (k : Nat) (vH0 : List zQ) (vH1 : List (List Int)) (vH2 : List Int) (vH3 : List (List Int)) : Option Bool :=
 bif decide ((vH0.length : Int) < 1) then some false
 else bif decide ((vH0.length : Int) > 6) then some false
 else (zZd k vH0).bind fun x0 =>
 bif x0 then some false
 else (zW0 k vH1 (vH0.length : Int)).bind fun x1 =>
 bif x1 then ((zOj k vH2 (vH0.length : Int)).bind fun x2 =>
  bif x2 then ((zWz k vH3 (vH0.length : Int)).bind fun x3 =>
   bif x3 then ((zSr k vH3).bind fun x4 =>
    some x4)
   else some false)
  else some false)
 else some false
abbrev zSo : Type := (List zQ) × (List (List Int)) × (List Int) × (List (List Int)) × (List zQ) × (List (List Int)) × (List Int) × (List (List Int))
abbrev qMn : Type := List zF → Int → Int → List zQ → List (List Int) → List Int → List (List Int) → List zQ → List (List Int) → List Int → List (List Int) → Option zSo
def zJy (k : Nat) (rec : qMn) (s24 : List zF) (s25 s26 : Int) (b0_0 : List zQ) (b0_1 : List (List Int)) (b0_2 : List Int) (b0_3 : List (List Int)) (r3 : List zQ) (m4 : List (List Int)) (r5 : List Int) (m6 : List (List Int)) : Option zSo :=
 bif decide (s26 < s25) then (bif zE s26 s24.length then (bif zE (s24.getD s26.toNat (0, 0, 0, 0, 0, 0, 0)).2.1 r3.length then (bif zE (s24.getD s26.toNat (0, 0, 0, 0, 0, 0, 0)).2.2.1 r3.length then (let y0 : List zQ := (r3.set (s24.getD s26.toNat (0, 0, 0, 0, 0, 0, 0)).2.1.toNat ((zC ((r3.getD (s24.getD s26.toNat (0, 0, 0, 0, 0, 0, 0)).2.1.toNat (0, 0, 0)).1 - (s24.getD s26.toNat (0, 0, 0, 0, 0, 0, 0)).2.2.2.1)), (r3.getD (s24.getD s26.toNat (0, 0, 0, 0, 0, 0, 0)).2.1.toNat (0, 0, 0)).2))
     let y1 : List zQ := (y0.set (s24.getD s26.toNat (0, 0, 0, 0, 0, 0, 0)).2.2.1.toNat ((zC ((y0.getD (s24.getD s26.toNat (0, 0, 0, 0, 0, 0, 0)).2.2.1.toNat (0, 0, 0)).1 + (s24.getD s26.toNat (0, 0, 0, 0, 0, 0, 0)).2.2.2.1)), (y0.getD (s24.getD s26.toNat (0, 0, 0, 0, 0, 0, 0)).2.2.1.toNat (0, 0, 0)).2))
     bif !(decide ((s24.getD s26.toNat (0, 0, 0, 0, 0, 0, 0)).2.2.2.2.1 = 3)) then ((zGh k (y1.getD (s24.getD s26.toNat (0, 0, 0, 0, 0, 0, 0)).2.1.toNat (0, 0, 0)).1 (y1.getD (s24.getD s26.toNat (0, 0, 0, 0, 0, 0, 0)).2.1.toNat (0, 0, 0)).2.1 (y1.getD (s24.getD s26.toNat (0, 0, 0, 0, 0, 0, 0)).2.1.toNat (0, 0, 0)).2.2 (s24.getD s26.toNat (0, 0, 0, 0, 0, 0, 0)).2.2.2.1).bind fun x2 =>
      let y2 : List zQ := (y1.set (s24.getD s26.toNat (0, 0, 0, 0, 0, 0, 0)).2.1.toNat ((y1.getD (s24.getD s26.toNat (0, 0, 0, 0, 0, 0, 0)).2.1.toNat (0, 0, 0)).1, (y1.getD (s24.getD s26.toNat (0, 0, 0, 0, 0, 0, 0)).2.1.toNat (0, 0, 0)).2.1, x2))
      bif zE (s24.getD s26.toNat (0, 0, 0, 0, 0, 0, 0)).2.1 m6.length then (bif zE (s24.getD s26.toNat (0, 0, 0, 0, 0, 0, 0)).2.2.1 (m6.getD (s24.getD s26.toNat (0, 0, 0, 0, 0, 0, 0)).2.1.toNat []).length then (bif zE (s24.getD s26.toNat (0, 0, 0, 0, 0, 0, 0)).2.2.1 (m6.getD (s24.getD s26.toNat (0, 0, 0, 0, 0, 0, 0)).2.1.toNat []).length then (let y3 : List (List Int) := (m6.set (s24.getD s26.toNat (0, 0, 0, 0, 0, 0, 0)).2.1.toNat ((m6.getD (s24.getD s26.toNat (0, 0, 0, 0, 0, 0, 0)).2.1.toNat []).set (s24.getD s26.toNat (0, 0, 0, 0, 0, 0, 0)).2.2.1.toNat (zC (((m6.getD (s24.getD s26.toNat (0, 0, 0, 0, 0, 0, 0)).2.1.toNat []).getD (s24.getD s26.toNat (0, 0, 0, 0, 0, 0, 0)).2.2.1.toNat 0) + (s24.getD s26.toNat (0, 0, 0, 0, 0, 0, 0)).2.2.2.1))))
         bif zE (s24.getD s26.toNat (0, 0, 0, 0, 0, 0, 0)).2.2.1 y3.length then (bif zE (s24.getD s26.toNat (0, 0, 0, 0, 0, 0, 0)).2.1 (y3.getD (s24.getD s26.toNat (0, 0, 0, 0, 0, 0, 0)).2.2.1.toNat []).length then (bif zE (s24.getD s26.toNat (0, 0, 0, 0, 0, 0, 0)).2.1 (y3.getD (s24.getD s26.toNat (0, 0, 0, 0, 0, 0, 0)).2.2.1.toNat []).length then (let y4 : List (List Int) := (y3.set (s24.getD s26.toNat (0, 0, 0, 0, 0, 0, 0)).2.2.1.toNat ((y3.getD (s24.getD s26.toNat (0, 0, 0, 0, 0, 0, 0)).2.2.1.toNat []).set (s24.getD s26.toNat (0, 0, 0, 0, 0, 0, 0)).2.1.toNat (zC (((y3.getD (s24.getD s26.toNat (0, 0, 0, 0, 0, 0, 0)).2.2.1.toNat []).getD (s24.getD s26.toNat (0, 0, 0, 0, 0, 0, 0)).2.1.toNat 0) - (s24.getD s26.toNat (0, 0, 0, 0, 0, 0, 0)).2.2.2.1))))
            rec s24 s25 (zC (s26 + 1)) b0_0 b0_1 b0_2 b0_3 y2 m4 r5 y4)
           else none)
          else none)
         else none)
        else none)
       else none)
      else none)
     else bif zE (s24.getD s26.toNat (0, 0, 0, 0, 0, 0, 0)).2.1 m6.length then (bif zE (s24.getD s26.toNat (0, 0, 0, 0, 0, 0, 0)).2.2.1 (m6.getD (s24.getD s26.toNat (0, 0, 0, 0, 0, 0, 0)).2.1.toNat []).length then (bif zE (s24.getD s26.toNat (0, 0, 0, 0, 0, 0, 0)).2.2.1 (m6.getD (s24.getD s26.toNat (0, 0, 0, 0, 0, 0, 0)).2.1.toNat []).length then (let y5 : List (List Int) := (m6.set (s24.getD s26.toNat (0, 0, 0, 0, 0, 0, 0)).2.1.toNat ((m6.getD (s24.getD s26.toNat (0, 0, 0, 0, 0, 0, 0)).2.1.toNat []).set (s24.getD s26.toNat (0, 0, 0, 0, 0, 0, 0)).2.2.1.toNat (zC (((m6.getD (s24.getD s26.toNat (0, 0, 0, 0, 0, 0, 0)).2.1.toNat []).getD (s24.getD s26.toNat (0, 0, 0, 0, 0, 0, 0)).2.2.1.toNat 0) + (s24.getD s26.toNat (0, 0, 0, 0, 0, 0, 0)).2.2.2.1))))
        bif zE (s24.getD s26.toNat (0, 0, 0, 0, 0, 0, 0)).2.2.1 y5.length then (bif zE (s24.getD s26.toNat (0, 0, 0, 0, 0, 0, 0)).2.1 (y5.getD (s24.getD s26.toNat (0, 0, 0, 0, 0, 0, 0)).2.2.1.toNat []).length then (bif zE (s24.getD s26.toNat (0, 0, 0, 0, 0, 0, 0)).2.1 (y5.getD (s24.getD s26.toNat (0, 0, 0, 0, 0, 0, 0)).2.2.1.toNat []).length then (let y6 : List (List Int) := (y5.set (s24.getD s26.toNat (0, 0, 0, 0, 0, 0, 0)).2.2.1.toNat ((y5.getD (s24.getD s26.toNat (0, 0, 0, 0, 0, 0, 0)).2.2.1.toNat []).set (s24.getD s26.toNat (0, 0, 0, 0, 0, 0, 0)).2.1.toNat (zC (((y5.getD (s24.getD s26.toNat (0, 0, 0, 0, 0, 0, 0)).2.2.1.toNat []).getD (s24.getD s26.toNat (0, 0, 0, 0, 0, 0, 0)).2.1.toNat 0) - (s24.getD s26.toNat (0, 0, 0, 0, 0, 0, 0)).2.2.2.1))))
           rec s24 s25 (zC (s26 + 1)) b0_0 b0_1 b0_2 b0_3 y1 m4 r5 y6)
          else none)
         else none)
        else none)
       else none)
      else none)
     else none)
    else none)
   else none)
  else none)
 else some (b0_0, b0_1, b0_2, b0_3, r3, m4, r5, m6)
def zJl (k : Nat) : Nat → qMn
 | 0, _, _, _, _, _, _, _, _, _, _, _ => none
 | n + 1, s24, s25, s26, b0_0, b0_1, b0_2, b0_3, r3, m4, r5, m6 => zJy k (zJl k n) s24 s25 s26 b0_0 b0_1 b0_2 b0_3 r3 m4 r5 m6
def zDm (k : Nat) (vH0 : List zQ) (vH1 : List (List Int)) (vH2 : List Int) (vH3 : List (List Int)) (a1 : List zF) : Option ((List zQ) × (List (List Int)) × (List Int) × (List (List Int)) × Int) :=
 bif decide ((a1.length : Int) > 64) then some (vH0, vH1, vH2, vH3, 1)
 else (zXz k a1 vH0 vH1 vH2 vH3).bind fun x0 =>
 bif x0 then some (vH0, vH1, vH2, vH3, 1)
 else (jS k vH0 vH1 vH2 vH3).bind fun x1 =>
 (zJl k k a1 (a1.length : Int) 0 vH0 vH1 vH2 vH3 x1.1 x1.2.1 x1.2.2.1 x1.2.2.2).bind fun z =>
 (zQ0 k z.2.2.2.2.1 z.2.2.2.2.2.1 z.2.2.2.2.2.2.1 z.2.2.2.2.2.2.2).bind fun x3 =>
 bif !x3 then some (jF z 8)
 else some (qWc z 0)
abbrev zVj : Type := ((List zQ) × (List (List Int)) × (List Int) × (List (List Int)) × Int × Int × Int × Int × Int × Int × Int) ⊕ (Bool × Int × Int × Int × Int × Int × Int × Int × (List zQ) × (List (List Int)) × (List Int) × (List (List Int)))
abbrev qOi : Type := Int → Int → List zQ → List (List Int) → List Int → List (List Int) → Int → Int → Int → Int → Int → Int → Int → List zF → Option zVj
def zLi (k : Nat) (rec : qOi) (s16 s17 : Int) (b0_0 : List zQ) (b0_1 : List (List Int)) (b0_2 : List Int) (b0_3 : List (List Int)) (b1_0 b1_1 b1_2 b1_3 b1_4 b1_5 b1_6 : Int) (r3 : List zF) : Option zVj :=
 bif decide (s17 < s16) then (bif zE s17 r3.length then ((zHq k b0_0 b0_1 b0_2 b0_3 [(r3.getD s17.toNat (0, 0, 0, 0, 0, 0, 0))]).bind fun x1 =>
   bif !x1 then (rec s16 (zC (s17 + 1)) b0_0 b0_1 b0_2 b0_3 b1_0 b1_1 b1_2 b1_3 b1_4 b1_5 b1_6 r3)
   else (zDm k b0_0 b0_1 b0_2 b0_3 [(r3.getD s17.toNat (0, 0, 0, 0, 0, 0, 0))]).bind fun x2 =>
   bif decide (x2.2.2.2.2 = 0) then some (.inr (true, (zB6 (r3.getD s17.toNat (0, 0, 0, 0, 0, 0, 0)) (wS x2))))
   else rec s16 (zC (s17 + 1)) b0_0 b0_1 b0_2 b0_3 b1_0 b1_1 b1_2 b1_3 b1_4 b1_5 b1_6 r3)
  else none)
 else some (.inl (b0_0, b0_1, b0_2, b0_3, b1_0, b1_1, b1_2, b1_3, b1_4, b1_5, b1_6))
def zO2 (k : Nat) : Nat → qOi
 | 0, _, _, _, _, _, _, _, _, _, _, _, _, _, _ => none
 | n + 1, s16, s17, b0_0, b0_1, b0_2, b0_3, b1_0, b1_1, b1_2, b1_3, b1_4, b1_5, b1_6, r3 => zLi k (zO2 k n) s16 s17 b0_0 b0_1 b0_2 b0_3 b1_0 b1_1 b1_2 b1_3 b1_4 b1_5 b1_6 r3
def zYw (k : Nat) (vH0 : List zQ) (vH1 : List (List Int)) (vH2 : List Int) (vH3 : List (List Int)) (a1 : List zF) (a2 : Int) : Option (Int × Int × Int × Int × Int × Int × Int × (List zQ) × (List (List Int)) × (List Int) × (List (List Int)) × Bool) :=
 (zQe k a1 a2).bind fun x0 =>
 (zO2 k k (x0.length : Int) 0 vH0 vH1 vH2 vH3 0 0 0 0 0 0 0 x0).bind fun z =>
 match z with
 | .inl z1 => some (0, 0, 0, 0, 0, 0, 0, (jF z1 false))
 | .inr z2 => some (yZv z2 z2.1)
abbrev zR9 : Type := (List zF) × (List zQ) × (List (List Int)) × (List Int) × (List (List Int)) × (List zF)
abbrev qFq : Type := Int → List zF → List zQ → List (List Int) → List Int → List (List Int) → List zF → Option zR9
def zLp (k : Nat) (rec : qFq) (s2 : Int) (s7 : List zF) (b0_0 : List zQ) (b0_1 : List (List Int)) (b0_2 : List Int) (b0_3 : List (List Int)) (r1 : List zF) : Option zR9 :=
 (zYw k b0_0 b0_1 b0_2 b0_3 s7 s2).bind fun x0 =>
 bif !x0.2.2.2.2.2.2.2.2.2.2.2 then some (s7, b0_0, b0_1, b0_2, b0_3, r1)
 else (zDw k s7 x0.1).bind fun x1 =>
 bif zY (r1.length + 1) 56 then (let y0 : List zF := (r1 ++ [(jH x0)])
  rec s2 x1.1 x0.2.2.2.2.2.2.2.1 x0.2.2.2.2.2.2.2.2.1 x0.2.2.2.2.2.2.2.2.2.1 x0.2.2.2.2.2.2.2.2.2.2.1 y0)
 else none
def zQ4 (k : Nat) : Nat → qFq
 | 0, _, _, _, _, _, _, _ => none
 | n + 1, s2, s7, b0_0, b0_1, b0_2, b0_3, r1 => zLp k (zQ4 k n) s2 s7 b0_0 b0_1 b0_2 b0_3 r1
def zSb (k : Nat) (vH0 : List zQ) (vH1 : List (List Int)) (vH2 : List Int) (vH3 : List (List Int)) (a1 : List zF) (a2 : Int) : Option zRz :=
 (zQ4 k k a2 a1 vH0 vH1 vH2 vH3 []).bind fun z =>
 some (zC8 z (z.1, z.2.2.2.2.2))
abbrev zU5 : Type := (Int × Int × (List zQ) × (List (List Int)) × (List Int) × (List (List Int)) × Int × Int × Int × Int × Int × Int × Int × Int × Int × Int × Int × Int × Int × Int × (List zF)) ⊕ qXv
abbrev qGy : Type := Int → Int → Int → Int → List zQ → List (List Int) → List Int → List (List Int) → Int → Int → Int → Int → Int → Int → Int → Int → Int → Int → Int → Int → Int → Int → List zF → Int → Int → Int → Int → Int → Int → Int → Option zU5
def zNe (k : Nat) (rec : qGy) (s19 s20 s25 s26 : Int) (b0_0 : List zQ) (b0_1 : List (List Int)) (b0_2 : List Int) (b0_3 : List (List Int)) (b1_0 b1_1 b1_2 b1_3 b1_4 b1_5 b1_6 b1_7 b1_8 b1_9 b1_10 b1_11 b1_12 b1_13 : Int) (r2 : List zF) (b3_0 b3_1 b3_2 b3_3 b3_4 b3_5 b3_6 : Int) : Option zU5 :=
 bif decide (s26 < s25) then (bif zE s26 r2.length then (bif !(decide ((r2.getD s26.toNat (0, 0, 0, 0, 0, 0, 0)).2.1 = b3_2)) then (rec s19 s20 s25 (zC (s26 + 1)) b0_0 b0_1 b0_2 b0_3 b1_0 b1_1 b1_2 b1_3 b1_4 b1_5 b1_6 b1_7 b1_8 b1_9 b1_10 b1_11 b1_12 b1_13 r2 b3_0 b3_1 b3_2 b3_3 b3_4 b3_5 b3_6)
   else bif !(decide ((r2.getD s26.toNat (0, 0, 0, 0, 0, 0, 0)).2.2.1 = b3_1)) then (rec s19 s20 s25 (zC (s26 + 1)) b0_0 b0_1 b0_2 b0_3 b1_0 b1_1 b1_2 b1_3 b1_4 b1_5 b1_6 b1_7 b1_8 b1_9 b1_10 b1_11 b1_12 b1_13 r2 b3_0 b3_1 b3_2 b3_3 b3_4 b3_5 b3_6)
   else bif decide (b3_1 ≥ (r2.getD s26.toNat (0, 0, 0, 0, 0, 0, 0)).2.1) then (rec s19 s20 s25 (zC (s26 + 1)) b0_0 b0_1 b0_2 b0_3 b1_0 b1_1 b1_2 b1_3 b1_4 b1_5 b1_6 b1_7 b1_8 b1_9 b1_10 b1_11 b1_12 b1_13 r2 b3_0 b3_1 b3_2 b3_3 b3_4 b3_5 b3_6)
   else (zHq k b0_0 b0_1 b0_2 b0_3 [(b3_0, b3_1, b3_2, b3_3, b3_4, b3_5, b3_6), (r2.getD s26.toNat (0, 0, 0, 0, 0, 0, 0))]).bind fun x1 =>
   bif !x1 then (rec s19 s20 s25 (zC (s26 + 1)) b0_0 b0_1 b0_2 b0_3 b1_0 b1_1 b1_2 b1_3 b1_4 b1_5 b1_6 b1_7 b1_8 b1_9 b1_10 b1_11 b1_12 b1_13 r2 b3_0 b3_1 b3_2 b3_3 b3_4 b3_5 b3_6)
   else (zDm k b0_0 b0_1 b0_2 b0_3 [(b3_0, b3_1, b3_2, b3_3, b3_4, b3_5, b3_6), (r2.getD s26.toNat (0, 0, 0, 0, 0, 0, 0))]).bind fun x2 =>
   bif decide (x2.2.2.2.2 = 0) then some (.inr (true, b3_0, b3_1, b3_2, b3_3, b3_4, b3_5, b3_6, (zB6 (r2.getD s26.toNat (0, 0, 0, 0, 0, 0, 0)) (wS x2))))
   else rec s19 s20 s25 (zC (s26 + 1)) b0_0 b0_1 b0_2 b0_3 b1_0 b1_1 b1_2 b1_3 b1_4 b1_5 b1_6 b1_7 b1_8 b1_9 b1_10 b1_11 b1_12 b1_13 r2 b3_0 b3_1 b3_2 b3_3 b3_4 b3_5 b3_6)
  else none)
 else some (.inl (s19, s20, b0_0, b0_1, b0_2, b0_3, b1_0, b1_1, b1_2, b1_3, b1_4, b1_5, b1_6, b1_7, b1_8, b1_9, b1_10, b1_11, b1_12, b1_13, r2))
def zO4 (k : Nat) : Nat → qGy
 | 0, _, _, _, _, _, _, _, _, _, _, _, _, _, _, _, _, _, _, _, _, _, _, _, _, _, _, _, _, _, _ => none
 | n + 1, s19, s20, s25, s26, b0_0, b0_1, b0_2, b0_3, b1_0, b1_1, b1_2, b1_3, b1_4, b1_5, b1_6, b1_7, b1_8, b1_9, b1_10, b1_11, b1_12, b1_13, r2, b3_0, b3_1, b3_2, b3_3, b3_4, b3_5, b3_6 => zNe k (zO4 k n) s19 s20 s25 s26 b0_0 b0_1 b0_2 b0_3 b1_0 b1_1 b1_2 b1_3 b1_4 b1_5 b1_6 b1_7 b1_8 b1_9 b1_10 b1_11 b1_12 b1_13 r2 b3_0 b3_1 b3_2 b3_3 b3_4 b3_5 b3_6
abbrev zYp : Type := (Int × Int × Int × Int × Int × Int × Int × Int × Int × Int × Int × Int × Int × Int) ⊕ qXv
abbrev qH3 : Type := Int → Int → List zQ → List (List Int) → List Int → List (List Int) → Int → Int → Int → Int → Int → Int → Int → Int → Int → Int → Int → Int → Int → Int → List zF → Option zYp
def zM4 (k : Nat) (rec : qH3) (s19 s20 : Int) (b0_0 : List zQ) (b0_1 : List (List Int)) (b0_2 : List Int) (b0_3 : List (List Int)) (b1_0 b1_1 b1_2 b1_3 b1_4 b1_5 b1_6 b1_7 b1_8 b1_9 b1_10 b1_11 b1_12 b1_13 : Int) (r2 : List zF) : Option zYp :=
 bif decide (s20 < s19) then (bif zE s20 r2.length then ((zO4 k k s19 s20 (r2.length : Int) 0 b0_0 b0_1 b0_2 b0_3 b1_0 b1_1 b1_2 b1_3 b1_4 b1_5 b1_6 b1_7 b1_8 b1_9 b1_10 b1_11 b1_12 b1_13 r2 (r2.getD s20.toNat (0, 0, 0, 0, 0, 0, 0)).1 (r2.getD s20.toNat (0, 0, 0, 0, 0, 0, 0)).2.1 (r2.getD s20.toNat (0, 0, 0, 0, 0, 0, 0)).2.2.1 (r2.getD s20.toNat (0, 0, 0, 0, 0, 0, 0)).2.2.2.1 (r2.getD s20.toNat (0, 0, 0, 0, 0, 0, 0)).2.2.2.2.1 (r2.getD s20.toNat (0, 0, 0, 0, 0, 0, 0)).2.2.2.2.2.1 (r2.getD s20.toNat (0, 0, 0, 0, 0, 0, 0)).2.2.2.2.2.2).bind fun z =>
   match z with
   | .inl z1 => rec z1.1 (zC (z1.2.1 + 1)) z1.2.2.1 z1.2.2.2.1 z1.2.2.2.2.1 z1.2.2.2.2.2.1 z1.2.2.2.2.2.2.1 z1.2.2.2.2.2.2.2.1 z1.2.2.2.2.2.2.2.2.1 z1.2.2.2.2.2.2.2.2.2.1 z1.2.2.2.2.2.2.2.2.2.2.1 z1.2.2.2.2.2.2.2.2.2.2.2.1 z1.2.2.2.2.2.2.2.2.2.2.2.2.1 z1.2.2.2.2.2.2.2.2.2.2.2.2.2.1 z1.2.2.2.2.2.2.2.2.2.2.2.2.2.2.1 z1.2.2.2.2.2.2.2.2.2.2.2.2.2.2.2.1 z1.2.2.2.2.2.2.2.2.2.2.2.2.2.2.2.2.1 z1.2.2.2.2.2.2.2.2.2.2.2.2.2.2.2.2.2.1 z1.2.2.2.2.2.2.2.2.2.2.2.2.2.2.2.2.2.2.1 z1.2.2.2.2.2.2.2.2.2.2.2.2.2.2.2.2.2.2.2.1 z1.2.2.2.2.2.2.2.2.2.2.2.2.2.2.2.2.2.2.2.2
   | .inr z2 => some (.inr (z2.1, z2.2.1, z2.2.2.1, z2.2.2.2.1, z2.2.2.2.2.1, z2.2.2.2.2.2.1, z2.2.2.2.2.2.2.1, z2.2.2.2.2.2.2.2.1, z2.2.2.2.2.2.2.2.2.1, z2.2.2.2.2.2.2.2.2.2.1, z2.2.2.2.2.2.2.2.2.2.2.1, z2.2.2.2.2.2.2.2.2.2.2.2.1, z2.2.2.2.2.2.2.2.2.2.2.2.2.1, z2.2.2.2.2.2.2.2.2.2.2.2.2.2.1, z2.2.2.2.2.2.2.2.2.2.2.2.2.2.2.1, z2.2.2.2.2.2.2.2.2.2.2.2.2.2.2.2.1, z2.2.2.2.2.2.2.2.2.2.2.2.2.2.2.2.2.1, z2.2.2.2.2.2.2.2.2.2.2.2.2.2.2.2.2.2.1, z2.2.2.2.2.2.2.2.2.2.2.2.2.2.2.2.2.2.2)))
  else none)
 else some (.inl (b1_0, b1_1, b1_2, b1_3, b1_4, b1_5, b1_6, b1_7, b1_8, b1_9, b1_10, b1_11, b1_12, b1_13))
def zRe (k : Nat) : Nat → qH3
 | 0, _, _, _, _, _, _, _, _, _, _, _, _, _, _, _, _, _, _, _, _, _ => none
 | n + 1, s19, s20, b0_0, b0_1, b0_2, b0_3, b1_0, b1_1, b1_2, b1_3, b1_4, b1_5, b1_6, b1_7, b1_8, b1_9, b1_10, b1_11, b1_12, b1_13, r2 => zM4 k (zRe k n) s19 s20 b0_0 b0_1 b0_2 b0_3 b1_0 b1_1 b1_2 b1_3 b1_4 b1_5 b1_6 b1_7 b1_8 b1_9 b1_10 b1_11 b1_12 b1_13 r2
def zTr (k : Nat) (vH0 : List zQ) (vH1 : List (List Int)) (vH2 : List Int) (vH3 : List (List Int)) (a1 : List zF) (a2 : Int) : Option (Int × Int × Int × Int × Int × Int × Int × Int × Int × Int × Int × Int × Int × Int × (List zQ) × (List (List Int)) × (List Int) × (List (List Int)) × Bool) :=
 (zQe k a1 a2).bind fun x0 =>
 (zRe k k (x0.length : Int) 0 vH0 vH1 vH2 vH3 0 0 0 0 0 0 0 0 0 0 0 0 0 0 x0).bind fun z3 =>
 match z3 with
 | .inl z4 => some (0, 0, 0, 0, 0, 0, 0, 0, 0, 0, 0, 0, 0, 0, [], [], [], [], false)
 | .inr z5 => some (qG3 z5 z5.1)
abbrev zTy : Type := Int × (List zF) × (List zQ) × (List (List Int)) × (List Int) × (List (List Int)) × (List zF)
abbrev qBh : Type := Int → List zF → Int → Int → List zQ → List (List Int) → List Int → List (List Int) → List zF → List zF → Option zTy
def zGj (k : Nat) (rec : qBh) (s2 : Int) (s7 : List zF) (s34 s35 : Int) (b0_0 : List zQ) (b0_1 : List (List Int)) (b0_2 : List Int) (b0_3 : List (List Int)) (r1 r2 : List zF) : Option zTy :=
 bif decide (s35 < s34) then (bif zE s35 r2.length then ((zDw k s7 (r2.getD s35.toNat (0, 0, 0, 0, 0, 0, 0)).1).bind fun x1 =>
   bif zY (r1.length + 1) 56 then (let y0 : List zF := (r1 ++ [(r2.getD s35.toNat (0, 0, 0, 0, 0, 0, 0))])
    rec s2 x1.1 s34 (zC (s35 + 1)) b0_0 b0_1 b0_2 b0_3 y0 r2)
   else none)
  else none)
 else some (s2, s7, b0_0, b0_1, b0_2, b0_3, r1)
def zE5 (k : Nat) : Nat → qBh
 | 0, _, _, _, _, _, _, _, _, _, _ => none
 | n + 1, s2, s7, s34, s35, b0_0, b0_1, b0_2, b0_3, r1, r2 => zGj k (zE5 k n) s2 s7 s34 s35 b0_0 b0_1 b0_2 b0_3 r1 r2
abbrev zYt : Type := (List zF) × (List zQ) × (List (List Int)) × (List Int) × (List (List Int)) × (List zF)
abbrev qD8 : Type := Int → List zF → List zQ → List (List Int) → List Int → List (List Int) → List zF → Option zYt
def zL4 (k : Nat) (rec : qD8) (s2 : Int) (s7 : List zF) (b0_0 : List zQ) (b0_1 : List (List Int)) (b0_2 : List Int) (b0_3 : List (List Int)) (r1 : List zF) : Option zYt :=
 (zTr k b0_0 b0_1 b0_2 b0_3 s7 s2).bind fun x0 =>
 bif !x0.2.2.2.2.2.2.2.2.2.2.2.2.2.2.2.2.2.2 then some (s7, b0_0, b0_1, b0_2, b0_3, r1)
 else (zE5 k k s2 s7 2 0 x0.2.2.2.2.2.2.2.2.2.2.2.2.2.2.1 x0.2.2.2.2.2.2.2.2.2.2.2.2.2.2.2.1 x0.2.2.2.2.2.2.2.2.2.2.2.2.2.2.2.2.1 x0.2.2.2.2.2.2.2.2.2.2.2.2.2.2.2.2.2.1 r1 [(jH x0), (yZd x0)]).bind fun z =>
 rec z.1 z.2.1 z.2.2.1 z.2.2.2.1 z.2.2.2.2.1 z.2.2.2.2.2.1 z.2.2.2.2.2.2
def zO7 (k : Nat) : Nat → qD8
 | 0, _, _, _, _, _, _, _ => none
 | n + 1, s2, s7, b0_0, b0_1, b0_2, b0_3, r1 => zL4 k (zO7 k n) s2 s7 b0_0 b0_1 b0_2 b0_3 r1
def zYz (k : Nat) (vH0 : List zQ) (vH1 : List (List Int)) (vH2 : List Int) (vH3 : List (List Int)) (a1 : List zF) (a2 : Int) : Option zRz :=
 (zO7 k k a2 a1 vH0 vH1 vH2 vH3 []).bind fun z1 =>
 some (zC8 z1 (z1.1, z1.2.2.2.2.2))
abbrev zZo : Type := (List zF) × (List zQ) × (List (List Int)) × (List Int) × (List (List Int)) × (List zF)
abbrev qIy : Type := Int → List zF → List zQ → List (List Int) → List Int → List (List Int) → List zF → Option zZo
def zWv (k : Nat) (rec : qIy) (s2 : Int) (s7 : List zF) (b0_0 : List zQ) (b0_1 : List (List Int)) (b0_2 : List Int) (b0_3 : List (List Int)) (r1 : List zF) : Option zZo :=
 (zSb k b0_0 b0_1 b0_2 b0_3 s7 s2).bind fun x0 =>
 (zYz k x0.1 x0.2.1 x0.2.2.1 x0.2.2.2.1 x0.2.2.2.2.1 s2).bind fun x1 =>
 bif zY (r1.length + x0.2.2.2.2.2.length) 56 then (bif zY ((r1 ++ x0.2.2.2.2.2).length + x1.2.2.2.2.2.length) 56 then (let y0 : List zF := ((r1 ++ x0.2.2.2.2.2) ++ x1.2.2.2.2.2)
   bif decide ((x1.2.2.2.2.2.length : Int) = 0) then some (x1.2.2.2.2.1, (jF x1 y0))
   else rec s2 x1.2.2.2.2.1 x1.1 x1.2.1 x1.2.2.1 x1.2.2.2.1 y0)
  else none)
 else none
def zRv (k : Nat) : Nat → qIy
 | 0, _, _, _, _, _, _, _ => none
 | n + 1, s2, s7, b0_0, b0_1, b0_2, b0_3, r1 => zWv k (zRv k n) s2 s7 b0_0 b0_1 b0_2 b0_3 r1
def zQ5 (k : Nat) (vH0 : List zQ) (vH1 : List (List Int)) (vH2 : List Int) (vH3 : List (List Int)) (a1 : List zF) (a2 : Int) : Option zRz :=
 (zRv k k a2 a1 vH0 vH1 vH2 vH3 []).bind fun z =>
 some (zC8 z (z.1, z.2.2.2.2.2))
def qL1 (k : Nat) (a0 : List Int) : Option (List Int) :=
 bif zY (0 + a0.length) 8 then some a0
 else none
def qEi (k : Nat) (a0ID a0From a0To a0Amount a0Class a0Start a0Till : Int) (a1 : List Int) : Option (Bool × (List Int)) :=
 bif decide (a0From < 0) then some (false, a1)
 else bif decide (a0From ≥ (a1.length : Int)) then some (false, a1)
 else bif zE a0From a1.length then (bif decide ((a1.getD a0From.toNat 0) < 1) then some (false, a1)
  else bif zE a0From a1.length then (bif zE a0From a1.length then some (true, (a1.set a0From.toNat (zC ((a1.getD a0From.toNat 0) - 1))))
   else none)
  else none)
 else none
abbrev zUx : Type := (List Int) × (List zF)
abbrev qKx : Type := List zF → Int → Int → List Int → List zF → Option zUx
def zKs (k : Nat) (rec : qKx) (s8 : List zF) (s9 s10 : Int) (r1 : List Int) (r2 : List zF) : Option zUx :=
 bif decide (s10 < s9) then (bif zE s10 s8.length then ((qEi k (s8.getD s10.toNat (0, 0, 0, 0, 0, 0, 0)).1 (s8.getD s10.toNat (0, 0, 0, 0, 0, 0, 0)).2.1 (s8.getD s10.toNat (0, 0, 0, 0, 0, 0, 0)).2.2.1 (s8.getD s10.toNat (0, 0, 0, 0, 0, 0, 0)).2.2.2.1 (s8.getD s10.toNat (0, 0, 0, 0, 0, 0, 0)).2.2.2.2.1 (s8.getD s10.toNat (0, 0, 0, 0, 0, 0, 0)).2.2.2.2.2.1 (s8.getD s10.toNat (0, 0, 0, 0, 0, 0, 0)).2.2.2.2.2.2 r1).bind fun x0 =>
   bif x0.1 then (bif zY (r2.length + 1) 56 then (let y0 : List zF := (r2 ++ [(s8.getD s10.toNat (0, 0, 0, 0, 0, 0, 0))])
     rec s8 s9 (zC (s10 + 1)) x0.2 y0)
    else none)
   else rec s8 s9 (zC (s10 + 1)) x0.2 r2)
  else none)
 else some (r1, r2)
def zJe (k : Nat) : Nat → qKx
 | 0, _, _, _, _, _ => none
 | n + 1, s8, s9, s10, r1, r2 => zKs k (zJe k n) s8 s9 s10 r1 r2
def qFy (k : Nat) (a0 : List zF) (a1_0 : List Int) : Option ((List zF) × (List Int)) :=
 (zJe k k a0 (a0.length : Int) 0 a1_0 []).bind fun z =>
 some (z.2, z.1)
def zJc (k : Nat) (a0 : List zF) (a1 : List Int) : Option (List zF) :=
 (qL1 k a1).bind fun x0 =>
 (qFy k a0 x0).bind fun x1 =>
 some x1.1
abbrev zTi : Type := Int × (List zQ) × (List (List Int)) × (List Int) × (List (List Int)) × (List Int) × (List zF)
abbrev qI9 : Type := Int → Int → Int → List zQ → List (List Int) → List Int → List (List Int) → List Int → List zF → Option zTi
def zKw (k : Nat) (rec : qI9) (s7 s18 s19 : Int) (b0_0 : List zQ) (b0_1 : List (List Int)) (b0_2 : List Int) (b0_3 : List (List Int)) (r1 : List Int) (r2 : List zF) : Option zTi :=
 bif decide (s19 < s18) then ((zRx k r2 s19).bind fun x1 =>
  bif zY (r1.length + 1) 8 then (rec s7 s18 (zC (s19 + 1)) b0_0 b0_1 b0_2 b0_3 (r1 ++ [(x1.length : Int)]) r2)
  else none)
 else some (s7, b0_0, b0_1, b0_2, b0_3, r1, r2)
def zHh (k : Nat) : Nat → qI9
 | 0, _, _, _, _, _, _, _, _, _ => none
 | n + 1, s7, s18, s19, b0_0, b0_1, b0_2, b0_3, r1, r2 => zKw k (zHh k n) s7 s18 s19 b0_0 b0_1 b0_2 b0_3 r1 r2
abbrev zUi : Type := Int × (List zQ) × (List (List Int)) × (List Int) × (List (List Int)) × (List Int) × (List zF)
abbrev qCu : Type := Int → Int → Int → List zQ → List (List Int) → List Int → List (List Int) → List Int → List zF → List Int → Option zUi
def zKd (k : Nat) (rec : qCu) (s7 s43 s44 : Int) (b0_0 : List zQ) (b0_1 : List (List Int)) (b0_2 : List Int) (b0_3 : List (List Int)) (r1 : List Int) (r2 : List zF) (r3 : List Int) : Option zUi :=
 bif decide (s44 < s43) then (bif zE s44 r3.length then (bif zE (r3.getD s44.toNat 0) r1.length then (bif zE (r3.getD s44.toNat 0) r1.length then (let y0 : List Int := (r1.set (r3.getD s44.toNat 0).toNat (zC ((r1.getD (r3.getD s44.toNat 0).toNat 0) - 1)))
     rec s7 s43 (zC (s44 + 1)) b0_0 b0_1 b0_2 b0_3 y0 r2 r3)
    else none)
   else none)
  else none)
 else some (s7, b0_0, b0_1, b0_2, b0_3, r1, r2)
def zJ6 (k : Nat) : Nat → qCu
 | 0, _, _, _, _, _, _, _, _, _, _ => none
 | n + 1, s7, s43, s44, b0_0, b0_1, b0_2, b0_3, r1, r2, r3 => zKd k (zJ6 k n) s7 s43 s44 b0_0 b0_1 b0_2 b0_3 r1 r2 r3
abbrev qL7 : Type := Int → List zQ → List (List Int) → List Int → List (List Int) → List Int → List zF → Option (Int × (List Int))
def zMt (k : Nat) (rec : qL7) (s7 : Int) (b0_0 : List zQ) (b0_1 : List (List Int)) (b0_2 : List Int) (b0_3 : List (List Int)) (r1 : List Int) (r2 : List zF) : Option (Int × (List Int)) :=
 (zJc k r2 r1).bind fun x2 =>
 (zH7 k b0_0 b0_1 b0_2 b0_3 x2).bind fun x3 =>
 bif decide ((x3.length : Int) = 0) then some ((zC (s7 + 1)), r1)
 else (zJ6 k k (zC (s7 + 1)) (x3.length : Int) 0 b0_0 b0_1 b0_2 b0_3 r1 r2 x3).bind fun z1 =>
 rec z1.1 z1.2.1 z1.2.2.1 z1.2.2.2.1 z1.2.2.2.2.1 z1.2.2.2.2.2.1 z1.2.2.2.2.2.2
def zRn (k : Nat) : Nat → qL7
 | 0, _, _, _, _, _, _, _ => none
 | n + 1, s7, b0_0, b0_1, b0_2, b0_3, r1, r2 => zMt k (zRn k n) s7 b0_0 b0_1 b0_2 b0_3 r1 r2
def zXt (k : Nat) (vH0 : List zQ) (vH1 : List (List Int)) (vH2 : List Int) (vH3 : List (List Int)) (a1 : List zF) (a2 : Int) : Option ((List Int) × Int) :=
 (zM3 k a1 a2).bind fun x0 =>
 (zHh k k 0 (vH0.length : Int) 0 vH0 vH1 vH2 vH3 [] x0).bind fun z =>
 (zRn k k z.1 z.2.1 z.2.2.1 z.2.2.2.1 z.2.2.2.2.1 z.2.2.2.2.2.1 z.2.2.2.2.2.2).bind fun z2 =>
 some (z2.2, z2.1)
abbrev zXd : Type := (List zF) × (List zQ) × (List (List Int)) × (List Int) × (List (List Int)) × (List zF)
abbrev qE9 : Type := List zF → Int → Int → List zQ → List (List Int) → List Int → List (List Int) → List zF → Option zXd
def zNf (k : Nat) (rec : qE9) (s7 : List zF) (s39 s40 : Int) (b0_0 : List zQ) (b0_1 : List (List Int)) (b0_2 : List Int) (b0_3 : List (List Int)) (r1 : List zF) : Option zXd :=
 bif decide (s40 < s39) then (bif zE s40 r1.length then ((zDw k s7 (r1.getD s40.toNat (0, 0, 0, 0, 0, 0, 0)).1).bind fun x4 =>
   rec x4.1 s39 (zC (s40 + 1)) b0_0 b0_1 b0_2 b0_3 r1)
  else none)
 else some (s7, b0_0, b0_1, b0_2, b0_3, r1)
def zI2 (k : Nat) : Nat → qE9
 | 0, _, _, _, _, _, _, _, _ => none
 | n + 1, s7, s39, s40, b0_0, b0_1, b0_2, b0_3, r1 => zNf k (zI2 k n) s7 s39 s40 b0_0 b0_1 b0_2 b0_3 r1
def zKy (k : Nat) (vH0 : List zQ) (vH1 : List (List Int)) (vH2 : List Int) (vH3 : List (List Int)) (a1 : List zF) (a2 : Int) : Option zRz :=
 (zXt k vH0 vH1 vH2 vH3 a1 a2).bind fun x0 =>
 (zM3 k a1 a2).bind fun x1 =>
 (zJc k x1 x0.1).bind fun x2 =>
 (zDm k vH0 vH1 vH2 vH3 x2).bind fun x3 =>
 bif !(decide (x3.2.2.2.2 = 0)) then some (vH0, vH1, vH2, vH3, a1, [])
 else (zI2 k k a1 (x2.length : Int) 0 x3.1 x3.2.1 x3.2.2.1 x3.2.2.2.1 x2).bind fun z =>
 some (zC8 z (z.1, z.2.2.2.2.2))
def zHw (k : Nat) (vH0 : List zQ) (vH1 : List (List Int)) (vH2 : List Int) (vH3 : List (List Int)) (a1 : List zF) (a2 : Int) (a3 : Bool) : Option zRz :=
 (zQ5 k vH0 vH1 vH2 vH3 a1 a2).bind fun x0 =>
 bif !a3 then some (x0.1, x0.2.1, x0.2.2.1, x0.2.2.2.1, x0.2.2.2.2.1, x0.2.2.2.2.2)
 else (zKy k x0.1 x0.2.1 x0.2.2.1 x0.2.2.2.1 x0.2.2.2.2.1 a2).bind fun x1 =>
 bif decide ((x1.2.2.2.2.2.length : Int) = 0) then some (zE6 x1 x0.2.2.2.2.2)
 else (zQ5 k x1.1 x1.2.1 x1.2.2.1 x1.2.2.2.1 x1.2.2.2.2.1 a2).bind fun x2 =>
 bif zY (x0.2.2.2.2.2.length + x1.2.2.2.2.2.length) 56 then (bif zY ((x0.2.2.2.2.2 ++ x1.2.2.2.2.2).length + x2.2.2.2.2.2.length) 56 then (let y0 : List zF := ((x0.2.2.2.2.2 ++ x1.2.2.2.2.2) ++ x2.2.2.2.2.2)
   some (zE6 x2 y0))
  else none)
 else none
abbrev zUo : Type := (List zF) × Int × Int × (List qJ)
abbrev qGu : Type := List zF → Int → Int → Int → Int → List qJ → Int → Int → Int → Int → Int → Int → Int → List Int → Option zUo
def zG2 (k : Nat) (rec : qGu) (s8 : List zF) (s9 s10 s19 s20 : Int) (r0 : List qJ) (b1_0 b1_1 b1_2 b1_3 b1_4 b1_5 b1_6 : Int) (r2 : List Int) : Option zUo :=
 bif decide (s20 < s19) then (bif zE s20 r2.length then ((zDi k (r2.getD s20.toNat 0) 18 [b1_0, b1_1, b1_2, b1_3]).bind fun x0 =>
   bif zY (r0.length + 1) 64 then (rec s8 s9 s10 s19 (zC (s20 + 1)) (r0 ++ [x0]) b1_0 b1_1 b1_2 b1_3 b1_4 b1_5 b1_6 r2)
   else none)
  else none)
 else some (s8, s9, s10, r0)
def zGz (k : Nat) : Nat → qGu
 | 0, _, _, _, _, _, _, _, _, _, _, _, _, _, _ => none
 | n + 1, s8, s9, s10, s19, s20, r0, b1_0, b1_1, b1_2, b1_3, b1_4, b1_5, b1_6, r2 => zG2 k (zGz k n) s8 s9 s10 s19 s20 r0 b1_0 b1_1 b1_2 b1_3 b1_4 b1_5 b1_6 r2
abbrev zSp : Type := List qJ
abbrev qOn : Type := List zF → Int → Int → List qJ → Option zSp
def zMe (k : Nat) (rec : qOn) (s8 : List zF) (s9 s10 : Int) (r0 : List qJ) : Option zSp :=
 bif decide (s10 < s9) then (bif zE s10 s8.length then ((zGz k k s8 s9 s10 2 0 r0 (s8.getD s10.toNat (0, 0, 0, 0, 0, 0, 0)).1 (s8.getD s10.toNat (0, 0, 0, 0, 0, 0, 0)).2.1 (s8.getD s10.toNat (0, 0, 0, 0, 0, 0, 0)).2.2.1 (s8.getD s10.toNat (0, 0, 0, 0, 0, 0, 0)).2.2.2.1 (s8.getD s10.toNat (0, 0, 0, 0, 0, 0, 0)).2.2.2.2.1 (s8.getD s10.toNat (0, 0, 0, 0, 0, 0, 0)).2.2.2.2.2.1 (s8.getD s10.toNat (0, 0, 0, 0, 0, 0, 0)).2.2.2.2.2.2 [(s8.getD s10.toNat (0, 0, 0, 0, 0, 0, 0)).2.1, (s8.getD s10.toNat (0, 0, 0, 0, 0, 0, 0)).2.2.1]).bind fun z =>
   rec z.1 z.2.1 (zC (z.2.2.1 + 1)) z.2.2.2)
  else none)
 else some r0
def zJ2 (k : Nat) : Nat → qOn
 | 0, _, _, _, _ => none
 | n + 1, s8, s9, s10, r0 => zMe k (zJ2 k n) s8 s9 s10 r0
def zWo (k : Nat) (a0 : List zF) : Option (List qJ) :=
 (zJ2 k k a0 (a0.length : Int) 0 []).bind fun z1 =>
 some z1
def zFs (k : Nat) (a0Tick : Int) (a0BooksAccts : List zQ) (a0BooksBil : List (List Int)) (a0BooksMul : List Int) (a0BooksPos : List (List Int)) (a0Prices : List Int) (a0Holds : List (List Int)) (a0Pays : List zF) (a0IDs : List Int) (a0Total : Int) (a0Over a1 : Bool) : Option qKm :=
 (zHw k a0BooksAccts a0BooksBil a0BooksMul a0BooksPos a0Pays a0Tick a1).bind fun x0 =>
 (zWo k x0.2.2.2.2.2).bind fun x1 =>
 some (a0Tick, (jF x0 (a0Prices, a0Holds, x0.2.2.2.2.1, a0IDs, a0Total, a0Over, x1)))
abbrev zXe : Type := Int × (List vX) × Int × Int × Int × Int × (List zQ) × (List (List Int)) × (List Int) × (List (List Int)) × (List Int) × (List (List Int)) × (List zF) × (List Int) × Int × Bool × Int × Int × Bool × (List qJ) × (List zF)
abbrev qDd : Type := List zF → Int → Int → Int → List vX → Int → Int → Int → Int → List zQ → List (List Int) → List Int → List (List Int) → List Int → List (List Int) → List zF → List Int → Int → Bool → Int → Int → Bool → List qJ → List zF → Option zXe
def zKe (k : Nat) (rec : qDd) (s27 : List zF) (s28 s29 b0_0 : Int) (b0_1 : List vX) (b0_2 b0_3 b0_4 b1_0 : Int) (b1_1 : List zQ) (b1_2 : List (List Int)) (b1_3 : List Int) (b1_4 : List (List Int)) (b1_5 : List Int) (b1_6 : List (List Int)) (b1_7 : List zF) (b1_8 : List Int) (b1_9 : Int) (b1_10 : Bool) (b2_0 b2_9 : Int) (b2_10 : Bool) (r3 : List qJ) (r4 : List zF) : Option zXe :=
 bif decide (s29 < s28) then (bif zE s29 s27.length then ((qC6 k (s27.getD s29.toNat (0, 0, 0, 0, 0, 0, 0)).1 (s27.getD s29.toNat (0, 0, 0, 0, 0, 0, 0)).2.1 (s27.getD s29.toNat (0, 0, 0, 0, 0, 0, 0)).2.2.1 (s27.getD s29.toNat (0, 0, 0, 0, 0, 0, 0)).2.2.2.1 (s27.getD s29.toNat (0, 0, 0, 0, 0, 0, 0)).2.2.2.2.1 (s27.getD s29.toNat (0, 0, 0, 0, 0, 0, 0)).2.2.2.2.2.1 (s27.getD s29.toNat (0, 0, 0, 0, 0, 0, 0)).2.2.2.2.2.2 b1_0).bind fun x2 =>
   bif x2 then ((zDi k (s27.getD s29.toNat (0, 0, 0, 0, 0, 0, 0)).2.1 21 [(s27.getD s29.toNat (0, 0, 0, 0, 0, 0, 0)).1]).bind fun x3 =>
    bif zY (r3.length + 1) 64 then (rec s27 s28 (zC (s29 + 1)) b0_0 b0_1 b0_2 b0_3 b0_4 b1_0 b1_1 b1_2 b1_3 b1_4 b1_5 b1_6 b1_7 b1_8 b1_9 b1_10 b2_0 b2_9 b2_10 (r3 ++ [x3]) r4)
    else none)
   else bif zY (r4.length + 1) 56 then (let y0 : List zF := (r4 ++ [(s27.getD s29.toNat (0, 0, 0, 0, 0, 0, 0))])
    rec s27 s28 (zC (s29 + 1)) b0_0 b0_1 b0_2 b0_3 b0_4 b1_0 b1_1 b1_2 b1_3 b1_4 b1_5 b1_6 b1_7 b1_8 b1_9 b1_10 b2_0 b2_9 b2_10 r3 y0)
   else none)
  else none)
 else some (b0_0, b0_1, b0_2, b0_3, b0_4, b1_0, b1_1, b1_2, b1_3, b1_4, b1_5, b1_6, b1_7, b1_8, b1_9, b1_10, b2_0, b2_9, b2_10, r3, r4)
def zL2 (k : Nat) : Nat → qDd
 | 0, _, _, _, _, _, _, _, _, _, _, _, _, _, _, _, _, _, _, _, _, _, _, _, _ => none
 | n + 1, s27, s28, s29, b0_0, b0_1, b0_2, b0_3, b0_4, b1_0, b1_1, b1_2, b1_3, b1_4, b1_5, b1_6, b1_7, b1_8, b1_9, b1_10, b2_0, b2_9, b2_10, r3, r4 => zKe k (zL2 k n) s27 s28 s29 b0_0 b0_1 b0_2 b0_3 b0_4 b1_0 b1_1 b1_2 b1_3 b1_4 b1_5 b1_6 b1_7 b1_8 b1_9 b1_10 b2_0 b2_9 b2_10 r3 r4
def zNb (k : Nat) (a0Parties : Int) (a0Assets : List vX) (a0Cutoff a0Close a0Period a1Tick : Int) (a1BooksAccts : List zQ) (a1BooksBil : List (List Int)) (a1BooksMul : List Int) (a1BooksPos : List (List Int)) (a1Prices : List Int) (a1Holds : List (List Int)) (a1Pays : List zF) (a1IDs : List Int) (a1Total : Int) (a1Over : Bool) : Option qKm :=
 bif a1Over then some (a1Tick, a1BooksAccts, a1BooksBil, a1BooksMul, a1BooksPos, a1Prices, a1Holds, a1Pays, a1IDs, a1Total, a1Over, [])
 else (zSh k a0Parties a0Assets a0Cutoff a0Close a0Period (zC (a1Tick + 1))).bind fun x0 =>
 bif x0 then ((zUu k (zC (a1Tick + 1)) a1BooksAccts a1BooksBil a1BooksMul a1BooksPos a1Prices a1Holds a1Pays a1IDs a1Total a1Over).bind fun x1 =>
  some (x1.1, x1.2.1, x1.2.2.1, x1.2.2.2.1, x1.2.2.2.2.1, x1.2.2.2.2.2.1, x1.2.2.2.2.2.2.1, x1.2.2.2.2.2.2.2.1, x1.2.2.2.2.2.2.2.2.1, x1.2.2.2.2.2.2.2.2.2.1, x1.2.2.2.2.2.2.2.2.2.2.1, x1.2.2.2.2.2.2.2.2.2.2.2))
 else (zL2 k k a1Pays (a1Pays.length : Int) 0 a0Parties a0Assets a0Cutoff a0Close a0Period (zC (a1Tick + 1)) a1BooksAccts a1BooksBil a1BooksMul a1BooksPos a1Prices a1Holds a1Pays a1IDs a1Total a1Over 0 0 false [] []).bind fun z =>
 (zS1 k z.1 z.2.1 z.2.2.1 z.2.2.2.1 z.2.2.2.2.1 z.2.2.2.2.2.1).bind fun x4 =>
 (zFs k z.2.2.2.2.2.1 z.2.2.2.2.2.2.1 z.2.2.2.2.2.2.2.1 z.2.2.2.2.2.2.2.2.1 z.2.2.2.2.2.2.2.2.2.1 z.2.2.2.2.2.2.2.2.2.2.1 z.2.2.2.2.2.2.2.2.2.2.2.1 z.2.2.2.2.2.2.2.2.2.2.2.2.2.2.2.2.2.2.2.2 z.2.2.2.2.2.2.2.2.2.2.2.2.2.1 z.2.2.2.2.2.2.2.2.2.2.2.2.2.2.1 z.2.2.2.2.2.2.2.2.2.2.2.2.2.2.2.1 x4).bind fun x5 =>
 bif zY (z.2.2.2.2.2.2.2.2.2.2.2.2.2.2.2.2.2.2.2.1.length + x5.2.2.2.2.2.2.2.2.2.2.2.length) 64 then (let y1 : List qJ := (z.2.2.2.2.2.2.2.2.2.2.2.2.2.2.2.2.2.2.2.1 ++ x5.2.2.2.2.2.2.2.2.2.2.2)
  some (zGv x5 y1))
 else none
def qXx (k : Nat) (a0 : zBl) (a1 : (Int × Int × Int × Int × Int × Int)) : Option (Int × wD) :=
 (yR k a1.2.1 0 (zC (a0.1 - 1))).bind fun x0 =>
 bif !x0 then some (1, (yY a0 []))
 else (yR k a1.2.2.2.1 1 3).bind fun x1 =>
 bif !x1 then some (1, (yY a0 []))
 else (zI4 k (vE a0) a0.2.2.2.2.2.1 (a1.1, a0.2.2.2.2.2.2.2.2.2.2.2.2.2.2.2.2, a1.2)).bind fun x2 =>
 bif !(decide (x2 = 0)) then some (x2, (yY a0 []))
 else (zLk k a0.2.2.2.2.2.2.2.2.2.2.2.2.2.1 a1.1).bind fun x3 =>
 bif !(decide (x3.2 = 0)) then some (x3.2, (yY a0 []))
 else (zF9 k a0.2.2.2.2.2.2.2.2.2.2.2.2.1 (a1.1, a0.2.2.2.2.2.2.2.2.2.2.2.2.2.2.2.2, a1.2)).bind fun x4 =>
 bif !(decide (x4.2 = 0)) then some (x4.2, (yY a0 []))
 else some (0, (zDs a0 (x4.1, x3.1, a0.2.2.2.2.2.2.2.2.2.2.2.2.2.2.1, a0.2.2.2.2.2.2.2.2.2.2.2.2.2.2.2.1, a0.2.2.2.2.2.2.2.2.2.2.2.2.2.2.2.2, [])))
def zY3 (k : Nat) (a0 : zBl) (a1 : zF) : Option (Int × wD) :=
 (qEw k (yY a0 []) a1.2.1).bind fun x0 =>
 bif !(decide (x0.2 = 0)) then some (x0.2, (yY a0 []))
 else bif decide (a1.1 = 2) then ((zDw k a0.2.2.2.2.2.2.2.2.2.2.2.2.1 a1.2.1).bind fun x1 =>
  (zSt k (zDs a0 (x1.1, a0.2.2.2.2.2.2.2.2.2.2.2.2.2)) 20 [a1.2.1]).bind fun x2 =>
  some (x1.2.2.2.2.2.2.2.2, x2))
 else bif decide (a1.1 = 4) then ((yR k a1.2.2.1 1 3).bind fun x3 =>
  bif !x3 then some (1, (yY a0 []))
  else (zHt k (vE a0) a0.2.2.2.2.2.1 a1.2.2.1).bind fun x4 =>
  bif !(decide (x4 = 0)) then some (x4, (yY a0 []))
  else (zLm k a0.2.2.2.2.2.2.2.2.2.2.2.2.1 a1.2.1 a1.2.2.1).bind fun x5 =>
  some (x5.2, (zDs a0 (x5.1, (qCp a0 [])))))
 else bif decide (a1.2.2.1 = 0) then ((zK7 k a0.2.2.2.2.2.2.2.2.2.2.2.2.1 a1.2.1).bind fun x6 =>
  some (x6.2, (zDs a0 (x6.1, (qCp a0 [])))))
 else bif decide (a1.2.2.1 = 1) then ((zJf k a0.2.2.2.2.2.2.2.2.2.2.2.2.1 a1.2.1).bind fun x7 =>
  some (x7.2, (zDs a0 (x7.1, (qCp a0 [])))))
 else some (1, (yY a0 []))
def zTp (k : Nat) (a0 : zBl) (a1 : zF) : Option (Int × wD) :=
 (jS k a0.2.2.2.2.2.2.1 a0.2.2.2.2.2.2.2.1 a0.2.2.2.2.2.2.2.2.1 a0.2.2.2.2.2.2.2.2.2.1).bind fun x0 =>
 bif decide (a1.1 = 5) then ((qGt k (yY a0 []) a1.2.1).bind fun x1 =>
  bif !x1 then some (1, (yY a0 []))
  else (yR k a1.2.2.1 (-1) 1152921504606846976).bind fun x2 =>
  bif !x2 then some (1, (yY a0 []))
  else bif zE a0.2.2.2.2.2.2.2.2.2.2.2.2.2.2.2.2 x0.2.1.length then (bif zE a1.2.1 (x0.2.1.getD a0.2.2.2.2.2.2.2.2.2.2.2.2.2.2.2.2.toNat []).length then (let y0 : List (List Int) := (x0.2.1.set a0.2.2.2.2.2.2.2.2.2.2.2.2.2.2.2.2.toNat ((x0.2.1.getD a0.2.2.2.2.2.2.2.2.2.2.2.2.2.2.2.2.toNat []).set a1.2.1.toNat a1.2.2.1))
    some (0, (zAl a0 (x0.1, y0, x0.2.2.1, x0.2.2.2, (qDk a0 [])))))
   else none)
  else none)
 else bif decide (a1.1 = 6) then ((yR k a1.2.1 (-1) 1152921504606846976).bind fun x3 =>
  bif !x3 then some (1, (yY a0 []))
  else bif zE a0.2.2.2.2.2.2.2.2.2.2.2.2.2.2.2.2 x0.2.2.1.length then (let y1 : List Int := (x0.2.2.1.set a0.2.2.2.2.2.2.2.2.2.2.2.2.2.2.2.2.toNat a1.2.1)
   some (0, (zAl a0 (x0.1, x0.2.1, y1, x0.2.2.2, (qDk a0 [])))))
  else none)
 else (yR k a1.2.1 0 1152921504606846976).bind fun x4 =>
 bif !x4 then some (1, (yY a0 []))
 else bif zE a0.2.2.2.2.2.2.2.2.2.2.2.2.2.2.2.2 x0.1.length then (let y2 : List zQ := (x0.1.set a0.2.2.2.2.2.2.2.2.2.2.2.2.2.2.2.2.toNat ((x0.1.getD a0.2.2.2.2.2.2.2.2.2.2.2.2.2.2.2.2.toNat (0, 0, 0)).1, (x0.1.getD a0.2.2.2.2.2.2.2.2.2.2.2.2.2.2.2.2.toNat (0, 0, 0)).2.1, a1.2.1))
  some (0, (zAl a0 (y2, x0.2.1, x0.2.2.1, x0.2.2.2, (qDk a0 [])))))
 else none
def yOg (k : Nat) (a0 : zBl) (a1 a2 : Int) : Option (Int × wD) :=
 (zRk k (yY a0 []) a1).bind fun x0 =>
 bif !x0 then some (1, (yY a0 []))
 else (yR k a2 0 1099511627776).bind fun x1 =>
 bif !x1 then some (1, (yY a0 []))
 else (zNo k a0.2.2.2.2.2.2.2.2.2.2.2.1).bind fun x2 =>
 bif zE a0.2.2.2.2.2.2.2.2.2.2.2.2.2.2.2.2 x2.length then ((zDp k (x2.getD a0.2.2.2.2.2.2.2.2.2.2.2.2.2.2.2.2.toNat []) a1 a2).bind fun x3 =>
  bif zE a0.2.2.2.2.2.2.2.2.2.2.2.2.2.2.2.2 x2.length then (let y0 : List (List Int) := (x2.set a0.2.2.2.2.2.2.2.2.2.2.2.2.2.2.2.2.toNat x3)
   bif zE a0.2.2.2.2.2.2.2.2.2.2.2.2.2.2.2.2 y0.length then ((zEc k a0.2.1 a0.2.2.2.2.2.2.2.2.2.2.1 (y0.getD a0.2.2.2.2.2.2.2.2.2.2.2.2.2.2.2.2.toNat [])).bind fun x4 =>
    bif zE a0.2.2.2.2.2.2.2.2.2.2.2.2.2.2.2.2 a0.2.2.2.2.2.2.1.length then (bif !x4.2 then some (8, (yY a0 []))
     else bif decide (x4.1 > 1152921504606846976) then some (8, (yY a0 []))
     else bif decide (x4.1 < (a0.2.2.2.2.2.2.1.getD a0.2.2.2.2.2.2.2.2.2.2.2.2.2.2.2.2.toNat (0, 0, 0)).2.1) then (bif decide ((zC ((a0.2.2.2.2.2.2.1.getD a0.2.2.2.2.2.2.2.2.2.2.2.2.2.2.2.2.toNat (0, 0, 0)).1 + x4.1)) < 0) then some (9, (yY a0 []))
      else (jS k a0.2.2.2.2.2.2.1 a0.2.2.2.2.2.2.2.1 a0.2.2.2.2.2.2.2.2.1 a0.2.2.2.2.2.2.2.2.2.1).bind fun x5 =>
      bif zE a0.2.2.2.2.2.2.2.2.2.2.2.2.2.2.2.2 x5.1.length then (let y1 : List zQ := (x5.1.set a0.2.2.2.2.2.2.2.2.2.2.2.2.2.2.2.2.toNat ((x5.1.getD a0.2.2.2.2.2.2.2.2.2.2.2.2.2.2.2.2.toNat (0, 0, 0)).1, x4.1, (x5.1.getD a0.2.2.2.2.2.2.2.2.2.2.2.2.2.2.2.2.toNat (0, 0, 0)).2.2))
       some (0, (zAl a0 (y1, x5.2.1, x5.2.2.1, x5.2.2.2, a0.2.2.2.2.2.2.2.2.2.2.1, y0, (yG4 a0 [])))))
      else none)
     else (jS k a0.2.2.2.2.2.2.1 a0.2.2.2.2.2.2.2.1 a0.2.2.2.2.2.2.2.2.1 a0.2.2.2.2.2.2.2.2.2.1).bind fun x6 =>
     bif zE a0.2.2.2.2.2.2.2.2.2.2.2.2.2.2.2.2 x6.1.length then (let y2 : List zQ := (x6.1.set a0.2.2.2.2.2.2.2.2.2.2.2.2.2.2.2.2.toNat ((x6.1.getD a0.2.2.2.2.2.2.2.2.2.2.2.2.2.2.2.2.toNat (0, 0, 0)).1, x4.1, (x6.1.getD a0.2.2.2.2.2.2.2.2.2.2.2.2.2.2.2.2.toNat (0, 0, 0)).2.2))
      some (0, (zAl a0 (y2, x6.2.1, x6.2.2.1, x6.2.2.2, a0.2.2.2.2.2.2.2.2.2.2.1, y0, (yG4 a0 [])))))
     else none)
    else none)
   else none)
  else none)
 else none
def zNu (k : Nat) (a0 : zBl) (a1 a2 a3 : Int) : Option (Int × wD) :=
 (yR k a2 0 (zC (a0.1 - 1))).bind fun x0 =>
 bif !x0 then some (1, (yY a0 []))
 else (yR k a3 1 1099511627776).bind fun x1 =>
 bif !x1 then some (1, (yY a0 []))
 else bif zE a2 a0.2.2.2.2.2.2.1.length then ((zJ5 k (a0.2.2.2.2.2.2.1.getD a2.toNat (0, 0, 0)) a3).bind fun x2 =>
  bif decide (a1 = 11) then ((zK3 k (a0.2.2.2.2.2.2.1.getD a2.toNat (0, 0, 0)) a3 3).bind fun x3 =>
   (zL6 k (a0.2.2.2.2.2.2.1.getD a2.toNat (0, 0, 0)) 3).bind fun x4 =>
   bif decide (x4 < a3) then some (9, (yY a0 []))
   else bif decide ((zC (a0.2.2.2.2.2.2.2.2.2.2.2.2.2.2.1 - a3)) < 0) then some (9, (yY a0 []))
   else bif !(decide (x3.2 = 0)) then some (x3.2, (yY a0 []))
   else bif decide ((zC (a0.2.2.2.2.2.2.2.2.2.2.2.2.2.2.1 - a3)) > 1152921504606846976) then some (8, (yY a0 []))
   else (jS k a0.2.2.2.2.2.2.1 a0.2.2.2.2.2.2.2.1 a0.2.2.2.2.2.2.2.2.1 a0.2.2.2.2.2.2.2.2.2.1).bind fun x5 =>
   bif zE a2 x5.1.length then some (0, (zAl a0 ((x5.1.set a2.toNat x3.1), x5.2.1, x5.2.2.1, x5.2.2.2, (zXo a0 ((zC (a0.2.2.2.2.2.2.2.2.2.2.2.2.2.2.1 - a3)), a0.2.2.2.2.2.2.2.2.2.2.2.2.2.2.2.1, a0.2.2.2.2.2.2.2.2.2.2.2.2.2.2.2.2, [])))))
   else none)
  else bif !(decide (x2.2 = 0)) then some (x2.2, (yY a0 []))
  else bif decide ((zC (a0.2.2.2.2.2.2.2.2.2.2.2.2.2.2.1 + a3)) > 1152921504606846976) then some (8, (yY a0 []))
  else (jS k a0.2.2.2.2.2.2.1 a0.2.2.2.2.2.2.2.1 a0.2.2.2.2.2.2.2.2.1 a0.2.2.2.2.2.2.2.2.2.1).bind fun x6 =>
  bif zE a2 x6.1.length then some (0, (zAl a0 ((x6.1.set a2.toNat x2.1), x6.2.1, x6.2.2.1, x6.2.2.2, (zXo a0 ((zC (a0.2.2.2.2.2.2.2.2.2.2.2.2.2.2.1 + a3)), a0.2.2.2.2.2.2.2.2.2.2.2.2.2.2.2.1, a0.2.2.2.2.2.2.2.2.2.2.2.2.2.2.2.2, [])))))
  else none)
 else none
abbrev zSg : Type := (zBl × (List Int) × (List zQ) × (List (List Int)) × (List Int) × (List (List Int))) ⊕ (Int × zBl)
abbrev qOz : Type := List (List Int) → Int → Int → zBl → List Int → List zQ → List (List Int) → List Int → List (List Int) → Option zSg
def zJo (k : Nat) (rec : qOz) (s40 : List (List Int)) (s41 s42 : Int) (b0 : zBl) (r1 : List Int) (r3 : List zQ) (m4 : List (List Int)) (r5 : List Int) (m6 : List (List Int)) : Option zSg :=
 bif decide (s42 < s41) then (bif zE s42 s40.length then ((zEc k b0.2.1 r1 (s40.getD s42.toNat [])).bind fun x4 =>
   bif !x4.2 then some (.inr (8, b0))
   else bif decide (x4.1 > 1152921504606846976) then some (.inr (8, b0))
   else bif zE s42 r3.length then (let y0 : List zQ := (r3.set s42.toNat ((r3.getD s42.toNat (0, 0, 0)).1, x4.1, (r3.getD s42.toNat (0, 0, 0)).2.2))
    rec s40 s41 (zC (s42 + 1)) b0 r1 y0 m4 r5 m6)
   else none)
  else none)
 else some (.inl (b0, r1, r3, m4, r5, m6))
def zFc (k : Nat) : Nat → qOz := vG (fun _ _ _ _ _ _ _ _ _ => none) (zJo k)
def zU1 (k : Nat) (a0 : zBl) (a1 a2 : Int) : Option (Int × wD) :=
 (zRk k (yY a0 []) a1).bind fun x0 =>
 bif !x0 then some (1, (yY a0 []))
 else (yR k a2 0 1048576).bind fun x1 =>
 bif !x1 then some (1, (yY a0 []))
 else (zDp k a0.2.2.2.2.2.2.2.2.2.2.1 a1 a2).bind fun x2 =>
 (jS k a0.2.2.2.2.2.2.1 a0.2.2.2.2.2.2.2.1 a0.2.2.2.2.2.2.2.2.1 a0.2.2.2.2.2.2.2.2.2.1).bind fun x3 =>
 (zFc k k a0.2.2.2.2.2.2.2.2.2.2.2.1 (a0.2.2.2.2.2.2.2.2.2.2.2.1.length : Int) 0 a0 x2 x3.1 x3.2.1 x3.2.2.1 x3.2.2.2).bind fun z =>
 match z with
 | .inl z1 => some (0, (zAl z1.1 (yJv z1 (z1.2.1, (qJ0 z1.1 [])))))
 | .inr z2 => some (wI z2 [])
def zZj (k : Nat) (a0 : zBl) (a1 : zF) : Option (Int × wD) :=
 bif decide (a1.1 = 1) then ((qXx k a0 a1.2).bind fun x0 =>
  some (x0.1, x0.2))
 else bif decide (a1.1 = 2) then ((zY3 k a0 a1).bind fun x1 =>
  some (x1.1, x1.2))
 else bif decide (a1.1 = 3) then ((zY3 k a0 a1).bind fun x2 =>
  some (x2.1, x2.2))
 else bif decide (a1.1 = 4) then ((zY3 k a0 a1).bind fun x3 =>
  some (x3.1, x3.2))
 else bif decide (a1.1 = 5) then ((zTp k a0 a1).bind fun x4 =>
  some (x4.1, x4.2))
 else bif decide (a1.1 = 6) then ((zTp k a0 a1).bind fun x5 =>
  some (x5.1, x5.2))
 else bif decide (a1.1 = 7) then ((zTp k a0 a1).bind fun x6 =>
  some (x6.1, x6.2))
 else bif decide (a1.1 = 8) then ((yOg k a0 a1.2.1 a1.2.2.1).bind fun x7 =>
  some (x7.1, x7.2))
 else bif decide (a1.1 = 10) then ((zNu k a0 a1.1 a1.2.1 a1.2.2.1).bind fun x8 =>
  some (x8.1, x8.2))
 else bif decide (a1.1 = 11) then ((zNu k a0 a1.1 a1.2.1 a1.2.2.1).bind fun x9 =>
  some (x9.1, x9.2))
 else bif decide (a1.1 = 12) then ((zU1 k a0 a1.2.1 a1.2.2.1).bind fun x10 =>
  some (x10.1, x10.2))
 else some (0, (yY a0 []))
def zH4 (k : Nat) (a0 : yW) (a1 : vC) (a2 : qJ) : Option (vC × (List qJ) × Int) :=
 (zR1 k a0 a1 a2).bind fun x0 =>
 bif !(decide (x0 = 0)) then some (a1, [], x0)
 else bif decide (a2.2.1 = 9) then ((zTa k a1 a2.1).bind fun x1 =>
  some (a1, x1, 0))
 else bif !(decide (a2.1 = (-1))) then ((zSt k (jQ a0 (wH a1 a2.1)) 15 []).bind fun x2 =>
  (zSn k x2 a2.2).bind fun x3 =>
  bif !(decide (x3.1 = 0)) then some (a1, [], x3.1)
  else bif decide (a2.2.1 = 14) then ((zNb k a0.1 a0.2.1 a0.2.2.1 a0.2.2.2.1 a0.2.2.2.2 a1.1 a1.2.1 a1.2.2.1 a1.2.2.2.1 a1.2.2.2.2.1 a1.2.2.2.2.2.1 a1.2.2.2.2.2.2.1 a1.2.2.2.2.2.2.2.1 a1.2.2.2.2.2.2.2.2.1 a1.2.2.2.2.2.2.2.2.2.1 a1.2.2.2.2.2.2.2.2.2.2).bind fun x4 =>
   some ((yZ x4), x4.2.2.2.2.2.2.2.2.2.2.2, 0))
  else (zFs k x3.2.2.2.2.2.2.1 x3.2.2.2.2.2.2.2.1 x3.2.2.2.2.2.2.2.2.1 x3.2.2.2.2.2.2.2.2.2.1 x3.2.2.2.2.2.2.2.2.2.2.1 x3.2.2.2.2.2.2.2.2.2.2.2.1 x3.2.2.2.2.2.2.2.2.2.2.2.2.1 x3.2.2.2.2.2.2.2.2.2.2.2.2.2.1 x3.2.2.2.2.2.2.2.2.2.2.2.2.2.2.1 x3.2.2.2.2.2.2.2.2.2.2.2.2.2.2.2.1 x3.2.2.2.2.2.2.2.2.2.2.2.2.2.2.2.2.1 (decide (a2.2.1 = 13))).bind fun x5 =>
  bif zY (x3.2.2.2.2.2.2.2.2.2.2.2.2.2.2.2.2.2.2.length + x5.2.2.2.2.2.2.2.2.2.2.2.length) 64 then (let y0 : List qJ := (x3.2.2.2.2.2.2.2.2.2.2.2.2.2.2.2.2.2.2 ++ x5.2.2.2.2.2.2.2.2.2.2.2)
   bif decide (a2.2.1 = 1) then ((zCt k x5.2.2.2.2.2.2.2.1 a2.2.2.1).bind fun x6 =>
    bif decide (x6 ≥ 0) then ((zG7 k (zSx x3 y0) 19 [a2.2.2.1]).bind fun x7 =>
     some ((yZ x5), x7.2.2.2.2.2.2.2.2.2.2.2.2.2.2.2.2.2, 0))
    else some ((yZ x5), y0, 0))
   else some ((yZ x5), y0, 0))
  else none)
 else (zZj k (jQ a0 (wH a1 a2.1)) a2.2).bind fun x8 =>
 bif !(decide (x8.1 = 0)) then some (a1, [], x8.1)
 else bif decide (a2.2.1 = 14) then ((zNb k a0.1 a0.2.1 a0.2.2.1 a0.2.2.2.1 a0.2.2.2.2 a1.1 a1.2.1 a1.2.2.1 a1.2.2.2.1 a1.2.2.2.2.1 a1.2.2.2.2.2.1 a1.2.2.2.2.2.2.1 a1.2.2.2.2.2.2.2.1 a1.2.2.2.2.2.2.2.2.1 a1.2.2.2.2.2.2.2.2.2.1 a1.2.2.2.2.2.2.2.2.2.2).bind fun x9 =>
  some ((yZ x9), x9.2.2.2.2.2.2.2.2.2.2.2, 0))
 else (zFs k x8.2.2.2.2.2.2.1 x8.2.2.2.2.2.2.2.1 x8.2.2.2.2.2.2.2.2.1 x8.2.2.2.2.2.2.2.2.2.1 x8.2.2.2.2.2.2.2.2.2.2.1 x8.2.2.2.2.2.2.2.2.2.2.2.1 x8.2.2.2.2.2.2.2.2.2.2.2.2.1 x8.2.2.2.2.2.2.2.2.2.2.2.2.2.1 x8.2.2.2.2.2.2.2.2.2.2.2.2.2.2.1 x8.2.2.2.2.2.2.2.2.2.2.2.2.2.2.2.1 x8.2.2.2.2.2.2.2.2.2.2.2.2.2.2.2.2.1 (decide (a2.2.1 = 13))).bind fun x10 =>
 bif zY (x8.2.2.2.2.2.2.2.2.2.2.2.2.2.2.2.2.2.2.length + x10.2.2.2.2.2.2.2.2.2.2.2.length) 64 then (let y1 : List qJ := (x8.2.2.2.2.2.2.2.2.2.2.2.2.2.2.2.2.2.2 ++ x10.2.2.2.2.2.2.2.2.2.2.2)
  bif decide (a2.2.1 = 1) then ((zCt k x10.2.2.2.2.2.2.2.1 a2.2.2.1).bind fun x11 =>
   bif decide (x11 ≥ 0) then ((zG7 k (zSx x8 y1) 19 [a2.2.2.1]).bind fun x12 =>
    some ((yZ x10), x12.2.2.2.2.2.2.2.2.2.2.2.2.2.2.2.2.2, 0))
   else some ((yZ x10), y1, 0))
  else some ((yZ x10), y1, 0))
 else none
def zNa (k : Nat) (a0_0 : jR) (a0_1 : vB) (a1 : List Int) : Option (Int × jR × vB) :=
 (qF4 k a0_1 (zC (1 - a0_0.1)) (zC (a0_0.2.1 + 1)) a1).bind fun x0 =>
 bif decide (x0.1 = 0) then some (x0.1, ((zC (1 - a0_0.1)), (zC (a0_0.2.1 + 1)), 0, false), x0.2)
 else some (x0.1, a0_0, x0.2)
def qUm (k : Nat) (a0 : Int) : Option Bool :=
 (yR k a0 0 1048576).bind fun x0 =>
 some (!x0)
abbrev qIv : Type := List Int → Int → Int → Option (Unit ⊕ Int)
def yIu (k : Nat) (rec : qIv) (s0 : List Int) (s7 s8 : Int) : Option (Unit ⊕ Int) :=
 bif decide (s8 < s7) then (bif zE s8 s0.length then ((qUm k (s0.getD s8.toNat 0)).bind fun x0 =>
   bif x0 then some (.inr s8)
   else rec s0 s7 (zC (s8 + 1)))
  else none)
 else some (.inl ())
def zT8 (k : Nat) : Nat → qIv
 | 0, _, _, _ => none
 | n + 1, s0, s7, s8 => yIu k (zT8 k n) s0 s7 s8
def yCt (k : Nat) (a0 : List Int) : Option Int :=
 (zT8 k k a0 (a0.length : Int) 0).bind fun z =>
 match z with
 | .inl z1 => some (-1)
 | .inr z2 => some z2
def yMy (k : Nat) (a0 : List Int) : Option Bool :=
 (yCt k a0).bind fun x0 =>
 some (decide (x0 ≥ 0))
def qWx (k : Nat) (a0 : Int) : Option Bool :=
 some (decide (a0 > 1099511627776))
abbrev qE8 : Type := List Int → Int → Int → Option (Unit ⊕ Int)
def yNh (k : Nat) (rec : qE8) (s0 : List Int) (s7 s8 : Int) : Option (Unit ⊕ Int) :=
 bif decide (s8 < s7) then (bif zE s8 s0.length then ((qWx k (s0.getD s8.toNat 0)).bind fun x0 =>
   bif x0 then some (.inr s8)
   else rec s0 s7 (zC (s8 + 1)))
  else none)
 else some (.inl ())
def zXp (k : Nat) : Nat → qE8
 | 0, _, _, _ => none
 | n + 1, s0, s7, s8 => yNh k (zXp k n) s0 s7 s8
def yEy (k : Nat) (a0 : List Int) : Option Int :=
 (zXp k k a0 (a0.length : Int) 0).bind fun z =>
 match z with
 | .inl z1 => some (-1)
 | .inr z2 => some z2
def yMf (k : Nat) (a0 : List Int) : Option Bool :=
 (yEy k a0).bind fun x0 =>
 some (decide (x0 ≥ 0))
abbrev qJu : Type := List (List Int) → Int → Int → yW → vC → Option (Unit ⊕ Bool)
def qPj (k : Nat) (rec : qJu) (s28 : List (List Int)) (s29 s30 : Int) (b0 : yW) (b1 : vC) : Option (Unit ⊕ Bool) :=
 bif decide (s30 < s29) then (bif zE s30 s28.length then ((zEc k b0.2.1 b1.2.2.2.2.2.1 (s28.getD s30.toNat [])).bind fun x1 =>
   bif !x1.2 then some (.inr false)
   else bif decide (x1.1 > 1152921504606846976) then some (.inr false)
   else bif zE s30 b1.2.1.length then (bif !(decide (x1.1 = (b1.2.1.getD s30.toNat (0, 0, 0)).2.1)) then some (.inr false)
    else (yMf k (s28.getD s30.toNat [])).bind fun x2 =>
    bif x2 then some (.inr false)
    else rec s28 s29 (zC (s30 + 1)) b0 b1)
   else none)
  else none)
 else some (.inl ())
def qK4 (k : Nat) : Nat → qJu := vG (fun _ _ _ _ _ => none) (qPj k)
def qSr (k : Nat) (a0 : yW) (a1 : vC) : Option Bool :=
 bif !(decide ((a1.2.2.2.2.2.1.length : Int) = (a0.2.1.length : Int))) then some false
 else bif !(decide ((a1.2.2.2.2.2.2.1.length : Int) = a0.1)) then some false
 else (yMy k a1.2.2.2.2.2.1).bind fun x0 =>
 bif x0 then some false
 else (qK4 k k a1.2.2.2.2.2.2.1 (a1.2.2.2.2.2.2.1.length : Int) 0 a0 a1).bind fun z =>
 match z with
 | .inl z1 => some true
 | .inr z2 => some z2
abbrev qG0 : Type := List zF → Int → Option (Unit ⊕ Bool)
def yM5 (k : Nat) (rec : qG0) (s0 : List zF) (s5 : Int) : Option (Unit ⊕ Bool) :=
 bif decide (s5 > 0) then (bif zE s5 s0.length then (bif zE (zC (s5 - 1)) s0.length then ((zJh k (s0.getD s5.toNat (0, 0, 0, 0, 0, 0, 0)).1 (s0.getD s5.toNat (0, 0, 0, 0, 0, 0, 0)).2.1 (s0.getD s5.toNat (0, 0, 0, 0, 0, 0, 0)).2.2.1 (s0.getD s5.toNat (0, 0, 0, 0, 0, 0, 0)).2.2.2.1 (s0.getD s5.toNat (0, 0, 0, 0, 0, 0, 0)).2.2.2.2.1 (s0.getD s5.toNat (0, 0, 0, 0, 0, 0, 0)).2.2.2.2.2.1 (s0.getD s5.toNat (0, 0, 0, 0, 0, 0, 0)).2.2.2.2.2.2 (s0.getD (zC (s5 - 1)).toNat (0, 0, 0, 0, 0, 0, 0)).1 (s0.getD (zC (s5 - 1)).toNat (0, 0, 0, 0, 0, 0, 0)).2.1 (s0.getD (zC (s5 - 1)).toNat (0, 0, 0, 0, 0, 0, 0)).2.2.1 (s0.getD (zC (s5 - 1)).toNat (0, 0, 0, 0, 0, 0, 0)).2.2.2.1 (s0.getD (zC (s5 - 1)).toNat (0, 0, 0, 0, 0, 0, 0)).2.2.2.2.1 (s0.getD (zC (s5 - 1)).toNat (0, 0, 0, 0, 0, 0, 0)).2.2.2.2.2.1 (s0.getD (zC (s5 - 1)).toNat (0, 0, 0, 0, 0, 0, 0)).2.2.2.2.2.2).bind fun x0 =>
    bif decide (x0 < 0) then some (.inr false)
    else rec s0 (zC (s5 - 1)))
   else none)
  else none)
 else some (.inl ())
def qFx (k : Nat) : Nat → qG0 := vG (fun _ _ => none) (yM5 k)
def qS3 (k : Nat) (a0 : List zF) : Option Bool :=
 (qFx k k a0 (zC ((a0.length : Int) - 1))).bind fun z =>
 match z with
 | .inl z1 => some true
 | .inr z2 => some z2
abbrev zXj : Type := (List zF) ⊕ Bool
abbrev qOe : Type := List zF → List zF → Int → Int → Option zXj
def qT8 (k : Nat) (rec : qOe) (s0 s5 : List zF) (s6 s7 : Int) : Option zXj :=
 bif decide (s7 < s6) then (bif zE s7 s5.length then ((zCt k s0 (s5.getD s7.toNat (0, 0, 0, 0, 0, 0, 0)).1).bind fun x0 =>
   bif !(decide (x0 = s7)) then some (.inr false)
   else rec s0 s5 s6 (zC (s7 + 1)))
  else none)
 else some (.inl s0)
def zZe (k : Nat) : Nat → qOe
 | 0, _, _, _, _ => none
 | n + 1, s0, s5, s6, s7 => qT8 k (zZe k n) s0 s5 s6 s7
def qQ6 (k : Nat) (a0 : List zF) : Option Bool :=
 (zZe k k a0 a0 (a0.length : Int) 0).bind fun z =>
 match z with
 | .inl z1 => bif decide ((z1.length : Int) ≤ 40) then ((qS3 k z1).bind fun x1 =>
   some x1)
  else some false
 | .inr z2 => some z2
abbrev qF7 : Type := List Int → Int → List Int → Int → Int → Option ((List Int) ⊕ Bool)
def yAe (k : Nat) (rec : qF7) (s0 : List Int) (s3 : Int) (s6 : List Int) (s7 s8 : Int) : Option ((List Int) ⊕ Bool) :=
 bif decide (s8 < s7) then (bif zE s8 s6.length then (bif decide ((s6.getD s8.toNat 0) ≤ s3) then some (.inr false)
   else rec s0 (s6.getD s8.toNat 0) s6 s7 (zC (s8 + 1)))
  else none)
 else some (.inl s0)
def qD4 (k : Nat) : Nat → qF7 := vG (fun _ _ _ _ _ => none) (yAe k)
def yGa (k : Nat) (a0 : List Int) : Option Bool :=
 (qD4 k k a0 0 a0 (a0.length : Int) 0).bind fun z =>
 match z with
 | .inl z1 => some (decide ((z1.length : Int) ≤ 200))
 | .inr z2 => some z2
def yNq (k : Nat) (a0 : List Int) (a1 : Int) : Option Bool :=
 (zKx k a0 a1).bind fun x0 =>
 some x0.2
def qSo (k : Nat) (a0 : zF) (a1 : vC) : Option Bool :=
 (zI5 k a1.2.1 a1.2.2.1 a1.2.2.2.1 a1.2.2.2.2.1 a0.1 a0.2.1 a0.2.2.1 a0.2.2.2.1 a0.2.2.2.2.1 a0.2.2.2.2.2.1 a0.2.2.2.2.2.2).bind fun x0 =>
 bif !x0 then some true
 else bif decide (a0.2.2.2.2.2.1 < 0) then some true
 else (yR k a0.2.2.2.2.2.2 a0.2.2.2.2.2.1 1048576).bind fun x1 =>
 bif !x1 then some true
 else (yNq k a1.2.2.2.2.2.2.2.2.1 a0.1).bind fun x2 =>
 some (!x2)
abbrev qDi : Type := List zF → Int → Int → Int → List zQ → List (List Int) → List Int → List (List Int) → List Int → List (List Int) → List zF → List Int → Int → Bool → Option (Unit ⊕ Int)
def yFg (k : Nat) (rec : qDi) (s0 : List zF) (s7 s8 b0_0 : Int) (b0_1 : List zQ) (b0_2 : List (List Int)) (b0_3 : List Int) (b0_4 : List (List Int)) (b0_5 : List Int) (b0_6 : List (List Int)) (b0_7 : List zF) (b0_8 : List Int) (b0_9 : Int) (b0_10 : Bool) : Option (Unit ⊕ Int) :=
 bif decide (s8 < s7) then (bif zE s8 s0.length then ((qSo k (s0.getD s8.toNat (0, 0, 0, 0, 0, 0, 0)) (b0_0, b0_1, b0_2, b0_3, b0_4, b0_5, b0_6, b0_7, b0_8, b0_9, b0_10)).bind fun x0 =>
   bif x0 then some (.inr s8)
   else rec s0 s7 (zC (s8 + 1)) b0_0 b0_1 b0_2 b0_3 b0_4 b0_5 b0_6 b0_7 b0_8 b0_9 b0_10)
  else none)
 else some (.inl ())
def zSc (k : Nat) : Nat → qDi
 | 0, _, _, _, _, _, _, _, _, _, _, _, _, _, _ => none
 | n + 1, s0, s7, s8, b0_0, b0_1, b0_2, b0_3, b0_4, b0_5, b0_6, b0_7, b0_8, b0_9, b0_10 => yFg k (zSc k n) s0 s7 s8 b0_0 b0_1 b0_2 b0_3 b0_4 b0_5 b0_6 b0_7 b0_8 b0_9 b0_10
def yB7 (k : Nat) (a0 : List zF) (a1_0Tick : Int) (a1_0BooksAccts : List zQ) (a1_0BooksBil : List (List Int)) (a1_0BooksMul : List Int) (a1_0BooksPos : List (List Int)) (a1_0Prices : List Int) (a1_0Holds : List (List Int)) (a1_0Pays : List zF) (a1_0IDs : List Int) (a1_0Total : Int) (a1_0Over : Bool) : Option Int :=
 (zSc k k a0 (a0.length : Int) 0 a1_0Tick a1_0BooksAccts a1_0BooksBil a1_0BooksMul a1_0BooksPos a1_0Prices a1_0Holds a1_0Pays a1_0IDs a1_0Total a1_0Over).bind fun z =>
 match z with
 | .inl z1 => some (-1)
 | .inr z2 => some z2
def qTs (k : Nat) (a0 : List zF) (a1_0Tick : Int) (a1_0BooksAccts : List zQ) (a1_0BooksBil : List (List Int)) (a1_0BooksMul : List Int) (a1_0BooksPos : List (List Int)) (a1_0Prices : List Int) (a1_0Holds : List (List Int)) (a1_0Pays : List zF) (a1_0IDs : List Int) (a1_0Total : Int) (a1_0Over : Bool) : Option Bool :=
 (yB7 k a0 a1_0Tick a1_0BooksAccts a1_0BooksBil a1_0BooksMul a1_0BooksPos a1_0Prices a1_0Holds a1_0Pays a1_0IDs a1_0Total a1_0Over).bind fun x0 =>
 some (decide (x0 ≥ 0))
def yM0 (k : Nat) (a0 : vC) : Option Bool :=
 (qQ6 k a0.2.2.2.2.2.2.2.1).bind fun x0 =>
 bif x0 then ((yGa k a0.2.2.2.2.2.2.2.2.1).bind fun x1 =>
  bif x1 then ((qTs k a0.2.2.2.2.2.2.2.1 a0.1 a0.2.1 a0.2.2.1 a0.2.2.2.1 a0.2.2.2.2.1 a0.2.2.2.2.2.1 a0.2.2.2.2.2.2.1 a0.2.2.2.2.2.2.2.1 a0.2.2.2.2.2.2.2.2.1 a0.2.2.2.2.2.2.2.2.2.1 a0.2.2.2.2.2.2.2.2.2.2).bind fun x2 =>
   some (!x2))
  else some false)
 else some false
abbrev zY2 : Type := yW × vC × (List Int)
abbrev qKy : Type := List zQ → Int → Int → yW → vC → List Int → Option zY2
def yGh (k : Nat) (rec : qKy) (s44 : List zQ) (s45 s46 : Int) (b0 : yW) (b1 : vC) (r2 : List Int) : Option zY2 :=
 bif decide (s46 < s45) then (bif zE s46 s44.length then (bif zY (r2.length + 1) 8 then (rec s44 s45 (zC (s46 + 1)) b0 b1 (r2 ++ [(s44.getD s46.toNat (0, 0, 0)).1]))
   else none)
  else none)
 else some (b0, b1, r2)
def qJ5 (k : Nat) : Nat → qKy := vG (fun _ _ _ _ _ _ => none) (yGh k)
def zWs (k : Nat) (a0 : yW) (a1 : vC) : Option Bool :=
 (yR k a1.1 0 a0.2.2.2.1).bind fun x0 =>
 bif !x0 then some false
 else (zQ0 k a1.2.1 a1.2.2.1 a1.2.2.2.1 a1.2.2.2.2.1).bind fun x1 =>
 bif !x1 then some false
 else bif !(decide ((a1.2.1.length : Int) = a0.1)) then some false
 else (qSr k a0 a1).bind fun x2 =>
 bif !x2 then some false
 else (yM0 k a1).bind fun x3 =>
 bif !x3 then some false
 else (qJ5 k k a1.2.1 (a1.2.1.length : Int) 0 a0 a1 []).bind fun z =>
 (zP9 k z.2.2).bind fun x4 =>
 bif !x4.2 then some false
 else bif !(decide (x4.1 = z.2.1.2.2.2.2.2.2.2.2.2.1)) then some false
 else (yR k x4.1 0 1152921504606846976).bind fun x5 =>
 bif !x5 then some false
 else (zSh k z.1.1 z.1.2.1 z.1.2.2.1 z.1.2.2.2.1 z.1.2.2.2.2 z.2.1.1).bind fun x6 =>
 bif zG5 z.2.1.2.2.2.2.2.2.2.2.2.2 x6 then (bif !z.2.1.2.2.2.2.2.2.2.2.2.2 then some true
  else some (decide ((z.2.1.2.2.2.2.2.2.2.1.length : Int) = 0)))
 else some false
abbrev zV1 : Type := Int × Bool × K7q × (List Int) × (List Int) × yW × jR × vC
abbrev qIb : Type := Int → Bool → List (List Int) → Int → Int → K7q → List Int → List Int → yW → jR → vC → Option zV1
def yKc (k : Nat) (rec : qIb) (s2 : Int) (s12 : Bool) (s72 : List (List Int)) (s73 s74 : Int) (b0 : K7q) (r1 r2 : List Int) (b3 : yW) (b4 : jR) (b5 : vC) : Option zV1 :=
 bif decide (s74 < s73) then (bif zE s74 s72.length then ((qB3 k (s72.getD s74.toNat [])).bind fun x8 =>
   bif decide (x8.2 = 0) then ((zH4 k b3 b5 x8.1).bind fun x9 =>
    rec s2 s12 s72 s73 (zC (s74 + 1)) b0 r1 r2 b3 b4 x9.1)
   else rec s2 s12 s72 s73 (zC (s74 + 1)) b0 r1 r2 b3 b4 b5)
  else none)
 else some (s2, s12, b0, r1, r2, b3, b4, b5)
def zOe (k : Nat) : Nat → qIb := vG (fun _ _ _ _ _ _ _ _ _ _ _ => none) (yKc k)
def zUz (k : Nat) (a0 : yW) (a1 : vB) (a2 : Int) : Option ((Int × vB × zDa × jR) ⊕ (Int × vB)) :=
 (qMb k a0).bind fun x0 =>
 bif !x0 then some (.inr (1, a1))
 else bif decide (a2 < 1) then some (.inr (1, a1))
 else bif decide (a2 > 1000) then some (.inr (1, a1))
 else (qEs k a1).bind fun x1 =>
 (zDd k a0).bind fun x2 =>
 (zCx k x2).bind fun x3 =>
 (qQk k a1 x3).bind fun x4 =>
 match x4 with
 | .inl x5 => bif !(decide (x5.2.2.1 = 0)) then some (.inr (x5.2.2.1, x5.2.2.2.1))
  else (zZk k x5.1).bind fun x6 =>
  bif !x6.2 then ((zDd k a0).bind fun x7 =>
   (zOe k k a2 x1.2.2.2.2 x5.2.1 (x5.2.1.length : Int) 0 (x5.2.2.2.1.1, x5.2.2.2.1.2.2.1, x5.2.2.2.1.2.2.2.2) x5.2.2.2.1.2.1 x5.2.2.2.1.2.2.2.1 a0 x5.2.2.2.2 x7).bind fun z =>
   bif z.2.1 then ((zCx k z.2.2.2.2.2.2.2).bind fun x10 =>
    (zNa k z.2.2.2.2.2.2.1 (z.2.2.1.1, z.2.2.2.1, z.2.2.1.2.1, z.2.2.2.2.1, z.2.2.1.2.2) x10).bind fun x11 =>
    bif !(decide (x11.1 = 0)) then some (.inr (x11.1, x11.2.2))
    else some (.inl (0, x11.2.2, (jQ z.2.2.2.2.2.1 (zMd z (z.1, false))), x11.2.1)))
   else some (.inl (0, (z.2.2.1.1, z.2.2.2.1, z.2.2.1.2.1, z.2.2.2.2.1, z.2.2.1.2.2), (jQ z.2.2.2.2.2.1 (zMd z (z.1, false))), z.2.2.2.2.2.2.1)))
  else (zWs k a0 x6.1).bind fun x12 =>
  bif !x12 then ((zDd k a0).bind fun x13 =>
   (zOe k k a2 x1.2.2.2.2 x5.2.1 (x5.2.1.length : Int) 0 (x5.2.2.2.1.1, x5.2.2.2.1.2.2.1, x5.2.2.2.1.2.2.2.2) x5.2.2.2.1.2.1 x5.2.2.2.1.2.2.2.1 a0 x5.2.2.2.2 x13).bind fun z1 =>
   bif z1.2.1 then ((zCx k z1.2.2.2.2.2.2.2).bind fun x14 =>
    (zNa k z1.2.2.2.2.2.2.1 (z1.2.2.1.1, z1.2.2.2.1, z1.2.2.1.2.1, z1.2.2.2.2.1, z1.2.2.1.2.2) x14).bind fun x15 =>
    bif !(decide (x15.1 = 0)) then some (.inr (x15.1, x15.2.2))
    else some (.inl (0, x15.2.2, (jQ z1.2.2.2.2.2.1 (zMd z1 (z1.1, false))), x15.2.1)))
   else some (.inl (0, (z1.2.2.1.1, z1.2.2.2.1, z1.2.2.1.2.1, z1.2.2.2.2.1, z1.2.2.1.2.2), (jQ z1.2.2.2.2.2.1 (zMd z1 (z1.1, false))), z1.2.2.2.2.2.2.1)))
  else (zOe k k a2 x1.2.2.2.2 x5.2.1 (x5.2.1.length : Int) 0 (x5.2.2.2.1.1, x5.2.2.2.1.2.2.1, x5.2.2.2.1.2.2.2.2) x5.2.2.2.1.2.1 x5.2.2.2.1.2.2.2.1 a0 x5.2.2.2.2 x6.1).bind fun z2 =>
  bif z2.2.1 then ((zCx k z2.2.2.2.2.2.2.2).bind fun x16 =>
   (zNa k z2.2.2.2.2.2.2.1 (z2.2.2.1.1, z2.2.2.2.1, z2.2.2.1.2.1, z2.2.2.2.2.1, z2.2.2.1.2.2) x16).bind fun x17 =>
   bif !(decide (x17.1 = 0)) then some (.inr (x17.1, x17.2.2))
   else some (.inl (0, x17.2.2, (jQ z2.2.2.2.2.2.1 (zMd z2 (z2.1, false))), x17.2.1)))
  else some (.inl (0, (z2.2.2.1.1, z2.2.2.2.1, z2.2.2.1.2.1, z2.2.2.2.2.1, z2.2.2.1.2.2), (jQ z2.2.2.2.2.2.1 (zMd z2 (z2.1, false))), z2.2.2.2.2.2.2.1))
 | .inr x18 => bif !(decide (x18.2.2.1 = 0)) then some (.inr (x18.2.2.1, x18.2.2.2))
  else (zZk k x18.1).bind fun x19 =>
  bif !x19.2 then ((zDd k a0).bind fun x20 =>
   none)
  else (zWs k a0 x19.1).bind fun x21 =>
  bif !x21 then ((zDd k a0).bind fun x22 =>
   none)
  else none
def zPz (k : Nat) (a0_0 : zDa) (a0_1 : jR) (a0_2 : vB) : Option (Bool × zDa × jR × vB) :=
 some (a0_0.2.2.2.2.2.2.2.2.2.2.2.2.2.2.2.2.2, a0_0, a0_1, a0_2)
def zN1 (k : Nat) (a0 a1 : Int) : Option (List qJ) :=
 some [(a0, 16, a1, 0, 0, 0, 0, 0)]
def qP3 (k : Nat) (a0 : zF) : Option (List Int) :=
 (zMz k a0).bind fun x0 =>
 bif !x0 then some []
 else (zMr k a0.1).bind fun x1 =>
 bif (decide (0 ≤ x1)) && (decide (x1 ≤ 6)) then ((zMf k (qY [a0.2.1, a0.2.2.1, a0.2.2.2.1, a0.2.2.2.2.1, a0.2.2.2.2.2.1, a0.2.2.2.2.2.2] 0 (x1.toNat - 0))).bind fun x2 =>
  bif zY (1 + x2.length) 1 then some ([(IntKind.wrap .u8 (a0.1))] ++ x2)
  else none)
 else none
def yCp (k : Nat) (a0 : qJ) : Option (List Int) :=
 (qP3 k a0.2).bind fun x0 =>
 bif decide ((x0.length : Int) = 0) then some []
 else (zMf k [a0.1]).bind fun x1 =>
 bif zY (x1.length + x0.length) 1 then some (x1 ++ x0)
 else none
def qAj (k : Nat) (a0_0 : jR) (a0_1 : vB) (a1 : List Int) : Option (Int × jR × vB) :=
 (qMg k a1).bind fun x0 =>
 bif !x0.2 then some (10, a0_0, a0_1)
 else bif a0_0.2.2.2 then some (10, a0_0, a0_1)
 else (qJm k a0_1 a0_0.1 x0.1).bind fun x1 =>
 bif decide (x1.1 = 3) then some (10, a0_0, x1.2)
 else bif decide (x1.1 = 0) then ((qN5 k x1.2).bind fun x2 =>
  bif decide (x2.1 = 0) then some (x2.1, (a0_0.1, a0_0.2.1, (zC (a0_0.2.2.1 + 1)), a0_0.2.2.2), x2.2)
  else some (x2.1, a0_0, x2.2))
 else bif decide (x1.1 = 0) then some (x1.1, (a0_0.1, a0_0.2.1, (zC (a0_0.2.2.1 + 1)), a0_0.2.2.2), x1.2)
 else some (x1.1, a0_0, x1.2)
def qWs (k : Nat) (a0_0 : zDa) (a0_1 : jR) (a0_2 : vB) (a1 : List Int) : Option (Int × zDa × jR × vB) :=
 (qAj k a0_1 a0_2 a1).bind fun x0 =>
 bif !(decide (x0.1 = 10)) then some (x0.1, a0_0, x0.2.1, x0.2.2)
 else (zCx k (zFy a0_0)).bind fun x1 =>
 (zNa k x0.2.1 x0.2.2 x1).bind fun x2 =>
 bif !(decide (x2.1 = 0)) then some (x2.1, a0_0, x2.2.1, x2.2.2)
 else (qAj k x2.2.1 x2.2.2 a1).bind fun x3 =>
 some (x3.1, a0_0, x3.2.1, x3.2.2)
def yDh (k : Nat) (a0_0 : jR) (a0_1 : vB) : Option (Int × jR × vB) :=
 some (a0_0.2.2.1, a0_0, a0_1)
def yKu (k : Nat) (a0_0 : zDa) (a0_1 : jR) (a0_2 : vB) (a1 : Int) (a2 : List Int) : Option ((List qJ) × zDa × jR × vB) :=
 (zPz k a0_0 a0_1 a0_2).bind fun x0 =>
 bif x0.1 then some ([], x0.2.1, x0.2.2.1, x0.2.2.2)
 else (zJ8 k a2).bind fun x1 =>
 bif !(decide (x1.2 = 0)) then ((zN1 k a1 x1.2).bind fun x2 =>
  some (x2, x0.2.1, x0.2.2.1, x0.2.2.2))
 else (zH4 k (vE x0.2.1) (zFy x0.2.1) (a1, x1.1)).bind fun x3 =>
 bif !(decide (x3.2.2 = 0)) then ((zN1 k a1 x3.2.2).bind fun x4 =>
  some (x4, x0.2.1, x0.2.2.1, x0.2.2.2))
 else bif decide (x1.1.1 = 9) then some (x3.2.1, x0.2.1, x0.2.2.1, x0.2.2.2)
 else (yCp k (a1, x1.1)).bind fun x5 =>
 (qWs k x0.2.1 x0.2.2.1 x0.2.2.2 x5).bind fun x6 =>
 bif decide (x6.1 = 0) then ((yDh k x6.2.2.1 x6.2.2.2).bind fun x7 =>
  bif decide (x7.1 ≥ x6.2.1.2.2.2.2.2.2.2.2.2.2.2.2.2.2.2.2.1) then ((zCx k x3.1).bind fun x8 =>
   (zNa k x7.2.1 x7.2.2 x8).bind fun x9 =>
   bif decide (x9.1 = 11) then some (x3.2.1, (zE6 x6.2.1 (wH x3.1 (x6.2.1.2.2.2.2.2.2.2.2.2.2.2.2.2.2.2.2.1, true))), x9.2.1, x9.2.2)
   else some (x3.2.1, (zE6 x6.2.1 (wH x3.1 x6.2.1.2.2.2.2.2.2.2.2.2.2.2.2.2.2.2.2)), x9.2.1, x9.2.2))
  else some (x3.2.1, (zE6 x6.2.1 (wH x3.1 x6.2.1.2.2.2.2.2.2.2.2.2.2.2.2.2.2.2.2)), x7.2.1, x7.2.2))
 else bif decide (x6.1 = 10) then ((zN1 k a1 10).bind fun x10 =>
  some (x10, x6.2.1, x6.2.2.1, x6.2.2.2))
 else some ([], (qLd x6.2.1 true), x6.2.2.1, x6.2.2.2)
def yMb (k : Nat) (a0 : qJ) : Option Bool :=
 some (decide (a0.2.1 = 16))
abbrev qJs : Type := List qJ → Int → Int → Option (Unit ⊕ Int)
def yE3 (k : Nat) (rec : qJs) (s0 : List qJ) (s7 s8 : Int) : Option (Unit ⊕ Int) :=
 bif decide (s8 < s7) then (bif zE s8 s0.length then ((yMb k (s0.getD s8.toNat (0, 0, 0, 0, 0, 0, 0, 0))).bind fun x0 =>
   bif x0 then some (.inr s8)
   else rec s0 s7 (zC (s8 + 1)))
  else none)
 else some (.inl ())
def qL3 (k : Nat) : Nat → qJs := vG (fun _ _ _ => none) (yE3 k)
def qTg (k : Nat) (a0 : List qJ) : Option Int :=
 (qL3 k k a0 (a0.length : Int) 0).bind fun z =>
 match z with
 | .inl z1 => some (-1)
 | .inr z2 => some z2
def qXg (k : Nat) (a0 : List qJ) : Option Bool :=
 (qTg k a0).bind fun x0 =>
 some (decide (x0 ≥ 0))
def qDb (k : Nat) (a0 : List qJ) : Option Bool :=
 (qXg k a0).bind fun x0 =>
 some x0
def qOq (k : Nat) (a0 : vB) (a1 : vX) : Option vB :=
 some (zE6 a0 (a1.1, a1.2, true, a0.2.2.2.2.2.2.2.2))
def qIm (k : Nat) (a0 : vB) : Option vB :=
 bif (decide (0 ≤ a0.2.2.1)) && (decide (a0.2.2.1 ≤ (a0.2.1.length : Int))) then (bif (decide (0 ≤ a0.2.2.2.2.1)) && (decide (a0.2.2.2.2.1 ≤ (a0.2.2.2.1.length : Int))) then some (a0.1, (List.take (a0.2.2.1.toNat - 0) a0.2.1), a0.2.2.1, (List.take (a0.2.2.2.2.1.toNat - 0) a0.2.2.2.1), a0.2.2.2.2.1, a0.2.2.2.2.2.1, a0.2.2.2.2.2.2.1, false, false, 0)
  else none)
 else none
def zOx (k : Nat) : Option Bool :=
 some true
def yAp (k : Nat) (a1 : Int) (a2 : List Int) : Option (List qJ) :=
 (zOx k).bind fun x0 =>
 bif x0 then some []
 else (zJ8 k a2).bind fun x1 =>
 bif !(decide (x1.2 = 0)) then ((zN1 k a1 x1.2).bind fun x2 =>
  some x2)
 else none
def qIs (k : Nat) : Option vC :=
 some (0, [], [], [], [], [], [], [], [], 0, false)
def qAp (k : Nat) (a0_0 : zDa) (a0_1 : jR) (a0_2 : vB) : Option (vC × zDa × jR × vB) :=
 some ((zFy a0_0), a0_0, a0_1, a0_2)
def yMi (k : Nat) (a1 : Int) : Option (List Int) :=
 some []
def zUg (k : Nat) (a1 : Int) : Option (Int × (List Int) × (List (List Int))) :=
 (yMi k a1).bind fun x0 =>
 (qB9 k x0).bind fun x1 =>
 bif decide ((x1.1.length : Int) = 0) then some (0, [], [])
 else bif zE 0 x1.1.length then (bif decide (((x1.1.getD 0 []).length : Int) < 8) then some (0, [], [])
  else bif zE 0 x1.1.length then (bif decide (8 ≤ ((x1.1.getD 0 []).length : Int)) then ((zHj k (List.take 8 (x1.1.getD 0 []))).bind fun x2 =>
    bif zE 0 x2.1.length then (bif decide ((x2.1.getD 0 0) < 1) then some (0, [], [])
     else bif zE 0 x2.1.length then (bif decide ((x2.1.getD 0 0) > 4611686018427387904) then some (0, [], [])
      else bif zE 0 x2.1.length then (bif zE 0 x1.1.length then (bif decide (8 ≤ ((x1.1.getD 0 []).length : Int)) then (bif decide (1 ≤ (x1.1.length : Int)) then some ((x2.1.getD 0 0), (List.drop 8 (x1.1.getD 0 [])), (qY x1.1 1 (x1.1.length - 1)))
         else none)
        else none)
       else none)
      else none)
     else none)
    else none)
   else none)
  else none)
 else none
def qV7 (k : Nat) : Option (Int × Int × (List Int) × (List (List Int)) × Bool) :=
 (zUg k 0).bind fun x0 =>
 bif decide (x0.1 > 0) then ((zUg k 1).bind fun x1 =>
  bif decide (x1.1 > x0.1) then some (x1.1, 1, x1.2.1, x1.2.2, true)
  else some (x0.1, 0, x0.2.1, x0.2.2, true))
 else (zUg k 1).bind fun x2 =>
 bif decide (x2.1 > 0) then some (x2.1, 1, x2.2.1, x2.2.2, true)
 else some (0, 0, [], [], false)
def yGu (k : Nat) (a1 : List Int) : Option ((List Int) × (List (List Int)) × Int) :=
 some ([], [], 11)
def zS9 (k : Nat) (a1 : List Int) : Option Int :=
 some 11
abbrev zYc : Type := Int × Bool × yW × vC
abbrev qEp : Type := Int → Bool → Int → Int → yW → vC → List (List Int) → Option zYc
def yGi (k : Nat) (rec : qEp) (s2 : Int) (s12 : Bool) (s73 s74 : Int) (b0 : yW) (b1 : vC) (r2 : List (List Int)) : Option zYc :=
 bif decide (s74 < s73) then (bif zE s74 r2.length then ((qB3 k (r2.getD s74.toNat [])).bind fun x7 =>
   bif decide (x7.2 = 0) then ((zH4 k b0 b1 x7.1).bind fun x8 =>
    rec s2 s12 s73 (zC (s74 + 1)) b0 x8.1 r2)
   else rec s2 s12 s73 (zC (s74 + 1)) b0 b1 r2)
  else none)
 else some (s2, s12, b0, b1)
def zNx (k : Nat) : Nat → qEp := vG (fun _ _ _ _ _ _ _ => none) (yGi k)
def yEe (k : Nat) (a0 : yW) (a2 : Int) : Option Int :=
 (qMb k a0).bind fun x0 =>
 bif !x0 then some 1
 else bif decide (a2 < 1) then some 1
 else bif decide (a2 > 1000) then some 1
 else (qV7 k).bind fun x1 =>
 (zDd k a0).bind fun x2 =>
 (zCx k x2).bind fun x3 =>
 (yGu k x3).bind fun x4 =>
 bif !(decide (x4.2.2 = 0)) then some x4.2.2
 else (zZk k x4.1).bind fun x5 =>
 bif !x5.2 then ((zDd k a0).bind fun x6 =>
  (zNx k k a2 x1.2.2.2.2 (x4.2.1.length : Int) 0 a0 x6 x4.2.1).bind fun z =>
  bif z.2.1 then ((zCx k z.2.2.2).bind fun x9 =>
   (zS9 k x9).bind fun x10 =>
   bif !(decide (x10 = 0)) then some x10
   else none)
  else none)
 else (zWs k a0 x5.1).bind fun x11 =>
 bif !x11 then ((zDd k a0).bind fun x12 =>
  (zNx k k a2 x1.2.2.2.2 (x4.2.1.length : Int) 0 a0 x12 x4.2.1).bind fun z1 =>
  bif z1.2.1 then ((zCx k z1.2.2.2).bind fun x13 =>
   (zS9 k x13).bind fun x14 =>
   bif !(decide (x14 = 0)) then some x14
   else none)
  else none)
 else (zNx k k a2 x1.2.2.2.2 (x4.2.1.length : Int) 0 a0 x5.1 x4.2.1).bind fun z2 =>
 bif z2.2.1 then ((zCx k z2.2.2.2).bind fun x15 =>
  (zS9 k x15).bind fun x16 =>
  bif !(decide (x16 = 0)) then some x16
  else none)
 else none
abbrev zYl : Type := (K4q × K4q × (List (List qJ)) × (List qJ)) ⊕ (K4q × zDa × jR × K7q × (List Int) × (List Int) × K4q × (List (List qJ)) × (List qJ))
abbrev qN2 : Type := (Int × (List K3q) × Int × Int × yW × K4q × K7q × (List Int) × (List Int) × zDa × jR × K4q × (List (List qJ)) × (List qJ)) ⊕ (Int × (List K3q) × Int × Int × yW × K4q × K7q × (List Int) × (List Int) × K4q × (List (List qJ)) × (List qJ)) → Option zYl
def qPl (k : Nat) (rec : qN2) (z : (Int × (List K3q) × Int × Int × yW × K4q × K7q × (List Int) × (List Int) × zDa × jR × K4q × (List (List qJ)) × (List qJ)) ⊕ (Int × (List K3q) × Int × Int × yW × K4q × K7q × (List Int) × (List Int) × K4q × (List (List qJ)) × (List qJ))) : Option zYl := match z with
 | .inl z => bif decide (z.2.2.2.1 < z.2.2.1) then (bif zE z.2.2.2.1 z.2.1.length then (bif decide ((z.2.1.getD z.2.2.2.1.toNat (0, 0, [], 0, 0)).1 = 1) then ((yKu k z.2.2.2.2.2.2.2.2.2.1 z.2.2.2.2.2.2.2.2.2.2.1 (z.2.2.2.2.2.2.1.1, z.2.2.2.2.2.2.2.1, z.2.2.2.2.2.2.1.2.1, z.2.2.2.2.2.2.2.2.1, z.2.2.2.2.2.2.1.2.2) (z.2.1.getD z.2.2.2.1.toNat (0, 0, [], 0, 0)).2.1 (z.2.1.getD z.2.2.2.1.toNat (0, 0, [], 0, 0)).2.2.1).bind fun x4 =>
     (zJ8 k (z.2.1.getD z.2.2.2.1.toNat (0, 0, [], 0, 0)).2.2.1).bind fun x5 =>
     bif decide (x5.2 = 0) then ((qDb k x4.1).bind fun x6 =>
      bif !x6 then (bif decide ((x4.1.length : Int) > 0) then (bif zY (z.2.2.2.2.2.2.2.2.2.2.2.2.2.length + 1) 64 then (let y0 : List qJ := (z.2.2.2.2.2.2.2.2.2.2.2.2.2 ++ [((z.2.1.getD z.2.2.2.1.toNat (0, 0, [], 0, 0)).2.1, x5.1)])
         bif zY (z.2.2.2.2.2.2.2.2.2.2.2.2.1.length + 1) 24 then (let y1 : List (List qJ) := (z.2.2.2.2.2.2.2.2.2.2.2.2.1 ++ [x4.1])
          rec (.inl (z.1, z.2.1, z.2.2.1, (zC (z.2.2.2.1 + 1)), z.2.2.2.2.1, z.2.2.2.2.2.1, (x4.2.2.2.1, x4.2.2.2.2.2.1, x4.2.2.2.2.2.2.2), x4.2.2.2.2.1, x4.2.2.2.2.2.2.1, x4.2.1, x4.2.2.1, z.2.2.2.2.2.2.2.2.2.2.2.1, y1, y0)))
         else none)
        else none)
       else (zPz k x4.2.1 x4.2.2.1 x4.2.2.2).bind fun x7 =>
       bif !x7.1 then (bif zY (z.2.2.2.2.2.2.2.2.2.2.2.2.2.length + 1) 64 then (let y2 : List qJ := (z.2.2.2.2.2.2.2.2.2.2.2.2.2 ++ [((z.2.1.getD z.2.2.2.1.toNat (0, 0, [], 0, 0)).2.1, x5.1)])
         bif zY (z.2.2.2.2.2.2.2.2.2.2.2.2.1.length + 1) 24 then (let y3 : List (List qJ) := (z.2.2.2.2.2.2.2.2.2.2.2.2.1 ++ [x4.1])
          rec (.inl (z.1, z.2.1, z.2.2.1, (zC (z.2.2.2.1 + 1)), z.2.2.2.2.1, z.2.2.2.2.2.1, (x7.2.2.2.1, x7.2.2.2.2.2.1, x7.2.2.2.2.2.2.2), x7.2.2.2.2.1, x7.2.2.2.2.2.2.1, x7.2.1, x7.2.2.1, z.2.2.2.2.2.2.2.2.2.2.2.1, y3, y2)))
         else none)
        else none)
       else bif zY (z.2.2.2.2.2.2.2.2.2.2.2.2.1.length + 1) 24 then (let y4 : List (List qJ) := (z.2.2.2.2.2.2.2.2.2.2.2.2.1 ++ [x4.1])
        rec (.inl (z.1, z.2.1, z.2.2.1, (zC (z.2.2.2.1 + 1)), z.2.2.2.2.1, z.2.2.2.2.2.1, (x7.2.2.2.1, x7.2.2.2.2.2.1, x7.2.2.2.2.2.2.2), x7.2.2.2.2.1, x7.2.2.2.2.2.2.1, x7.2.1, x7.2.2.1, z.2.2.2.2.2.2.2.2.2.2.2.1, y4, z.2.2.2.2.2.2.2.2.2.2.2.2.2)))
       else none)
      else bif zY (z.2.2.2.2.2.2.2.2.2.2.2.2.1.length + 1) 24 then (let y5 : List (List qJ) := (z.2.2.2.2.2.2.2.2.2.2.2.2.1 ++ [x4.1])
       rec (.inl (z.1, z.2.1, z.2.2.1, (zC (z.2.2.2.1 + 1)), z.2.2.2.2.1, z.2.2.2.2.2.1, (x4.2.2.2.1, x4.2.2.2.2.2.1, x4.2.2.2.2.2.2.2), x4.2.2.2.2.1, x4.2.2.2.2.2.2.1, x4.2.1, x4.2.2.1, z.2.2.2.2.2.2.2.2.2.2.2.1, y5, z.2.2.2.2.2.2.2.2.2.2.2.2.2)))
      else none)
     else bif zY (z.2.2.2.2.2.2.2.2.2.2.2.2.1.length + 1) 24 then (let y6 : List (List qJ) := (z.2.2.2.2.2.2.2.2.2.2.2.2.1 ++ [x4.1])
      rec (.inl (z.1, z.2.1, z.2.2.1, (zC (z.2.2.2.1 + 1)), z.2.2.2.2.1, z.2.2.2.2.2.1, (x4.2.2.2.1, x4.2.2.2.2.2.1, x4.2.2.2.2.2.2.2), x4.2.2.2.2.1, x4.2.2.2.2.2.2.1, x4.2.1, x4.2.2.1, z.2.2.2.2.2.2.2.2.2.2.2.1, y6, z.2.2.2.2.2.2.2.2.2.2.2.2.2)))
     else none)
    else bif decide ((z.2.1.getD z.2.2.2.1.toNat (0, 0, [], 0, 0)).1 = 2) then ((qOq k (z.2.2.2.2.2.2.1.1, z.2.2.2.2.2.2.2.1, z.2.2.2.2.2.2.1.2.1, z.2.2.2.2.2.2.2.2.1, z.2.2.2.2.2.2.1.2.2) (z.2.1.getD z.2.2.2.1.toNat (0, 0, [], 0, 0)).2.2.2).bind fun x8 =>
     bif zY (z.2.2.2.2.2.2.2.2.2.2.2.2.1.length + 1) 24 then (let y7 : List (List qJ) := (z.2.2.2.2.2.2.2.2.2.2.2.2.1 ++ [[]])
      rec (.inl (z.1, z.2.1, z.2.2.1, (zC (z.2.2.2.1 + 1)), z.2.2.2.2.1, z.2.2.2.2.2.1, (x8.1, x8.2.2.1, x8.2.2.2.2), x8.2.1, x8.2.2.2.1, z.2.2.2.2.2.2.2.2.2.1, z.2.2.2.2.2.2.2.2.2.2.1, z.2.2.2.2.2.2.2.2.2.2.2.1, y7, z.2.2.2.2.2.2.2.2.2.2.2.2.2)))
     else none)
    else bif decide ((z.2.1.getD z.2.2.2.1.toNat (0, 0, [], 0, 0)).1 = 3) then ((qIm k (z.2.2.2.2.2.2.1.1, z.2.2.2.2.2.2.2.1, z.2.2.2.2.2.2.1.2.1, z.2.2.2.2.2.2.2.2.1, z.2.2.2.2.2.2.1.2.2)).bind fun x9 =>
     (zUz k z.2.2.2.2.1 x9 z.1).bind fun x10 =>
     match x10 with
     | .inl x11 => bif zY (z.2.2.2.2.2.2.2.2.2.2.2.2.1.length + 1) 24 then (let y8 : List (List qJ) := (z.2.2.2.2.2.2.2.2.2.2.2.2.1 ++ [[]])
       rec (.inl (z.1, z.2.1, z.2.2.1, (zC (z.2.2.2.1 + 1)), z.2.2.2.2.1, z.2.2.2.2.2.1, (x11.2.1.1, x11.2.1.2.2.1, x11.2.1.2.2.2.2), x11.2.1.2.1, x11.2.1.2.2.2.1, x11.2.2.1, x11.2.2.2, z.2.2.2.2.2.2.2.2.2.2.2.1, y8, z.2.2.2.2.2.2.2.2.2.2.2.2.2)))
      else none
     | .inr x12 => bif zY (z.2.2.2.2.2.2.2.2.2.2.2.2.1.length + 1) 24 then (let y9 : List (List qJ) := (z.2.2.2.2.2.2.2.2.2.2.2.2.1 ++ [[]])
       rec (.inr (z.1, z.2.1, z.2.2.1, (zC (z.2.2.2.1 + 1)), z.2.2.2.2.1, z.2.2.2.2.2.1, (x12.2.1, x12.2.2.2.1, x12.2.2.2.2.2), x12.2.2.1, x12.2.2.2.2.1, z.2.2.2.2.2.2.2.2.2.2.2.1, y9, z.2.2.2.2.2.2.2.2.2.2.2.2.2)))
      else none)
    else bif zY (z.2.2.2.2.2.2.2.2.2.2.2.2.1.length + 1) 24 then (let y10 : List (List qJ) := (z.2.2.2.2.2.2.2.2.2.2.2.2.1 ++ [[]])
     rec (.inl (z.1, z.2.1, z.2.2.1, (zC (z.2.2.2.1 + 1)), (vFj z (y10, z.2.2.2.2.2.2.2.2.2.2.2.2.2)))))
    else none)
   else none)
  else some (.inr (z.2.2.2.2.2.1, z.2.2.2.2.2.2.2.2.2.1, z.2.2.2.2.2.2.2.2.2.2.1, z.2.2.2.2.2.2.1, z.2.2.2.2.2.2.2.1, z.2.2.2.2.2.2.2.2.1, z.2.2.2.2.2.2.2.2.2.2.2.1, z.2.2.2.2.2.2.2.2.2.2.2.2.1, z.2.2.2.2.2.2.2.2.2.2.2.2.2))
 | .inr z1 => bif decide (z1.2.2.2.1 < z1.2.2.1) then (bif zE z1.2.2.2.1 z1.2.1.length then (bif decide ((z1.2.1.getD z1.2.2.2.1.toNat (0, 0, [], 0, 0)).1 = 1) then ((yAp k (z1.2.1.getD z1.2.2.2.1.toNat (0, 0, [], 0, 0)).2.1 (z1.2.1.getD z1.2.2.2.1.toNat (0, 0, [], 0, 0)).2.2.1).bind fun x13 =>
     (zJ8 k (z1.2.1.getD z1.2.2.2.1.toNat (0, 0, [], 0, 0)).2.2.1).bind fun x14 =>
     bif decide (x14.2 = 0) then ((qDb k x13).bind fun x15 =>
      bif !x15 then (bif decide ((x13.length : Int) > 0) then (bif zY (z1.2.2.2.2.2.2.2.2.2.2.2.length + 1) 64 then (let y11 : List qJ := (z1.2.2.2.2.2.2.2.2.2.2.2 ++ [((z1.2.1.getD z1.2.2.2.1.toNat (0, 0, [], 0, 0)).2.1, x14.1)])
         bif zY (z1.2.2.2.2.2.2.2.2.2.2.1.length + 1) 24 then (let y12 : List (List qJ) := (z1.2.2.2.2.2.2.2.2.2.2.1 ++ [x13])
          rec (.inr (z1.1, z1.2.1, z1.2.2.1, (zC (z1.2.2.2.1 + 1)), (zLy z1 (y12, y11)))))
         else none)
        else none)
       else (zOx k).bind fun x16 =>
       bif !x16 then (bif zY (z1.2.2.2.2.2.2.2.2.2.2.2.length + 1) 64 then (let y13 : List qJ := (z1.2.2.2.2.2.2.2.2.2.2.2 ++ [((z1.2.1.getD z1.2.2.2.1.toNat (0, 0, [], 0, 0)).2.1, x14.1)])
         bif zY (z1.2.2.2.2.2.2.2.2.2.2.1.length + 1) 24 then (let y14 : List (List qJ) := (z1.2.2.2.2.2.2.2.2.2.2.1 ++ [x13])
          rec (.inr (z1.1, z1.2.1, z1.2.2.1, (zC (z1.2.2.2.1 + 1)), (zLy z1 (y14, y13)))))
         else none)
        else none)
       else bif zY (z1.2.2.2.2.2.2.2.2.2.2.1.length + 1) 24 then (let y15 : List (List qJ) := (z1.2.2.2.2.2.2.2.2.2.2.1 ++ [x13])
        rec (.inr (z1.1, z1.2.1, z1.2.2.1, (zC (z1.2.2.2.1 + 1)), (zLy z1 (y15, z1.2.2.2.2.2.2.2.2.2.2.2)))))
       else none)
      else bif zY (z1.2.2.2.2.2.2.2.2.2.2.1.length + 1) 24 then (let y16 : List (List qJ) := (z1.2.2.2.2.2.2.2.2.2.2.1 ++ [x13])
       rec (.inr (z1.1, z1.2.1, z1.2.2.1, (zC (z1.2.2.2.1 + 1)), (zLy z1 (y16, z1.2.2.2.2.2.2.2.2.2.2.2)))))
      else none)
     else bif zY (z1.2.2.2.2.2.2.2.2.2.2.1.length + 1) 24 then (let y17 : List (List qJ) := (z1.2.2.2.2.2.2.2.2.2.2.1 ++ [x13])
      rec (.inr (z1.1, z1.2.1, z1.2.2.1, (zC (z1.2.2.2.1 + 1)), (zLy z1 (y17, z1.2.2.2.2.2.2.2.2.2.2.2)))))
     else none)
    else bif decide ((z1.2.1.getD z1.2.2.2.1.toNat (0, 0, [], 0, 0)).1 = 2) then ((qOq k (z1.2.2.2.2.2.2.1.1, z1.2.2.2.2.2.2.2.1, z1.2.2.2.2.2.2.1.2.1, z1.2.2.2.2.2.2.2.2.1, z1.2.2.2.2.2.2.1.2.2) (z1.2.1.getD z1.2.2.2.1.toNat (0, 0, [], 0, 0)).2.2.2).bind fun x17 =>
     bif zY (z1.2.2.2.2.2.2.2.2.2.2.1.length + 1) 24 then (let y18 : List (List qJ) := (z1.2.2.2.2.2.2.2.2.2.2.1 ++ [[]])
      rec (.inr (z1.1, z1.2.1, z1.2.2.1, (zC (z1.2.2.2.1 + 1)), z1.2.2.2.2.1, z1.2.2.2.2.2.1, (x17.1, x17.2.2.1, x17.2.2.2.2), x17.2.1, x17.2.2.2.1, z1.2.2.2.2.2.2.2.2.2.1, y18, z1.2.2.2.2.2.2.2.2.2.2.2)))
     else none)
    else bif decide ((z1.2.1.getD z1.2.2.2.1.toNat (0, 0, [], 0, 0)).1 = 3) then ((qIm k (z1.2.2.2.2.2.2.1.1, z1.2.2.2.2.2.2.2.1, z1.2.2.2.2.2.2.1.2.1, z1.2.2.2.2.2.2.2.2.1, z1.2.2.2.2.2.2.1.2.2)).bind fun x18 =>
     (zUz k z1.2.2.2.2.1 x18 z1.1).bind fun x19 =>
     match x19 with
     | .inl x20 => bif zY (z1.2.2.2.2.2.2.2.2.2.2.1.length + 1) 24 then (let y19 : List (List qJ) := (z1.2.2.2.2.2.2.2.2.2.2.1 ++ [[]])
       rec (.inl (z1.1, z1.2.1, z1.2.2.1, (zC (z1.2.2.2.1 + 1)), z1.2.2.2.2.1, z1.2.2.2.2.2.1, (x20.2.1.1, x20.2.1.2.2.1, x20.2.1.2.2.2.2), x20.2.1.2.1, x20.2.1.2.2.2.1, x20.2.2.1, x20.2.2.2, z1.2.2.2.2.2.2.2.2.2.1, y19, z1.2.2.2.2.2.2.2.2.2.2.2)))
      else none
     | .inr x21 => bif zY (z1.2.2.2.2.2.2.2.2.2.2.1.length + 1) 24 then (let y20 : List (List qJ) := (z1.2.2.2.2.2.2.2.2.2.2.1 ++ [[]])
       rec (.inr (z1.1, z1.2.1, z1.2.2.1, (zC (z1.2.2.2.1 + 1)), z1.2.2.2.2.1, z1.2.2.2.2.2.1, (x21.2.1, x21.2.2.2.1, x21.2.2.2.2.2), x21.2.2.1, x21.2.2.2.2.1, z1.2.2.2.2.2.2.2.2.2.1, y20, z1.2.2.2.2.2.2.2.2.2.2.2)))
      else none)
    else bif zY (z1.2.2.2.2.2.2.2.2.2.2.1.length + 1) 24 then (let y21 : List (List qJ) := (z1.2.2.2.2.2.2.2.2.2.2.1 ++ [[]])
     rec (.inr (z1.1, z1.2.1, z1.2.2.1, (zC (z1.2.2.2.1 + 1)), (zLy z1 (y21, z1.2.2.2.2.2.2.2.2.2.2.2)))))
    else none)
   else none)
  else some (.inl (z1.2.2.2.2.2.1, z1.2.2.2.2.2.2.2.2.2.1, z1.2.2.2.2.2.2.2.2.2.2.1, z1.2.2.2.2.2.2.2.2.2.2.2))
def zSe (k : Nat) : Nat → qN2 := vG (fun _ => none) (qPl k)
def qSw (k : Nat) (a0 : yW) (a1 a2 : Int) (a3 : List K3q) : Option ((List (List qJ)) × (List qJ) × Int × (List zQ) × (List (List Int)) × (List Int) × (List (List Int)) × (List Int) × (List (List Int)) × (List zF) × (List Int) × Int × Bool × Bool) :=
 (qRu k a1).bind fun x0 =>
 match x0 with
 | .inl x1 => (zUz k a0 x1 a2).bind fun x2 =>
  match x2 with
  | .inl x3 => bif !(decide (x3.1 = 0)) then some ([], [], 0, [], [], [], [], [], [], [], [], 0, false, false)
   else (zSe k k (.inl (a2, a3, (a3.length : Int), 0, a0, (0, 0, false, false), (x3.2.1.1, x3.2.1.2.2.1, x3.2.1.2.2.2.2), x3.2.1.2.1, x3.2.1.2.2.2.1, x3.2.2.1, x3.2.2.2, (0, 0, false, false), [], []))).bind fun z2 =>
   match z2 with
   | .inl z3 => (qIs k).bind fun x22 =>
    (zOx k).bind fun x23 =>
    some (z3.2.2.1, z3.2.2.2, (wH x22 (!x23)))
   | .inr z4 => (qAp k z4.2.1 z4.2.2.1 (z4.2.2.2.1.1, z4.2.2.2.2.1, z4.2.2.2.1.2.1, z4.2.2.2.2.2.1, z4.2.2.2.1.2.2)).bind fun x24 =>
    (zPz k x24.2.1 x24.2.2.1 x24.2.2.2).bind fun x25 =>
    some (z4.2.2.2.2.2.2.2.1, z4.2.2.2.2.2.2.2.2, (wH x24.1 (!x25.1)))
  | .inr x26 => bif !(decide (x26.1 = 0)) then some ([], [], 0, [], [], [], [], [], [], [], [], 0, false, false)
   else (zSe k k (.inr (a2, a3, (a3.length : Int), 0, a0, (0, 0, false, false), (x26.2.1, x26.2.2.2.1, x26.2.2.2.2.2), x26.2.2.1, x26.2.2.2.2.1, (0, 0, false, false), [], []))).bind fun z5 =>
   match z5 with
   | .inl z6 => (qIs k).bind fun x27 =>
    (zOx k).bind fun x28 =>
    some (z6.2.2.1, z6.2.2.2, (wH x27 (!x28)))
   | .inr z7 => (qAp k z7.2.1 z7.2.2.1 (z7.2.2.2.1.1, z7.2.2.2.2.1, z7.2.2.2.1.2.1, z7.2.2.2.2.2.1, z7.2.2.2.1.2.2)).bind fun x29 =>
    (zPz k x29.2.1 x29.2.2.1 x29.2.2.2).bind fun x30 =>
    some (z7.2.2.2.2.2.2.2.1, z7.2.2.2.2.2.2.2.2, (wH x29.1 (!x30.1)))
 | .inr x31 => (yEe k a0 a2).bind fun x32 =>
  bif !(decide (x32 = 0)) then some ([], [], 0, [], [], [], [], [], [], [], [], 0, false, false)
  else none
def qGm (k : Nat) (a0 : Int) : Option Int :=
 bif decide (a0 < 0) then some (-1)
 else bif decide (a0 ≥ 24) then some (-1)
 else bif zE a0 24 then some (List.getD [(-1), 6, 1, 2, 2, 2, 1, 1, 2, 0, 2, 2, 2, 0, 0, 0, 1, 5, 4, 1, 1, 1, 1, 1] a0.toNat 0)
 else none
abbrev qOa : Type := Int → Int → zF → Option (Int ⊕ Bool)
def qUs (k : Nat) (rec : qOa) (s3 s4 : Int) (b0 : zF) : Option (Int ⊕ Bool) :=
 bif decide (s4 < 6) then (bif decide (s4 = 0) then (bif !(decide (b0.2.1 = 0)) then some (.inr false)
   else rec s3 (zC (s4 + 1)) b0)
  else bif decide (s4 = 1) then (bif !(decide (b0.2.2.1 = 0)) then some (.inr false)
   else rec s3 (zC (s4 + 1)) b0)
  else bif decide (s4 = 2) then (bif !(decide (b0.2.2.2.1 = 0)) then some (.inr false)
   else rec s3 (zC (s4 + 1)) b0)
  else bif decide (s4 = 3) then (bif !(decide (b0.2.2.2.2.1 = 0)) then some (.inr false)
   else rec s3 (zC (s4 + 1)) b0)
  else bif decide (s4 = 4) then (bif !(decide (b0.2.2.2.2.2.1 = 0)) then some (.inr false)
   else rec s3 (zC (s4 + 1)) b0)
  else bif decide (s4 = 5) then (bif !(decide (b0.2.2.2.2.2.2 = 0)) then some (.inr false)
   else rec s3 (zC (s4 + 1)) b0)
  else none)
 else some (.inl s3)
def qIx (k : Nat) : Nat → qOa := vG (fun _ _ _ => none) (qUs k)
def yGq (k : Nat) (a0 : zF) : Option Bool :=
 (qGm k a0.1).bind fun x0 =>
 (qIx k k x0 (vZ false x0 0) a0).bind fun z =>
 match z with
 | .inl z1 => some (decide (z1 ≥ 0))
 | .inr z2 => some z2
abbrev zUd : Type := Int × Int × Int × Int × Int × Int × Int × Int × Int × Int × Int × Int × Int × Int
abbrev qNd : Type := List Int → Int → Int → Int → Int → Int → Int → Int → Int → Int → Int → Int → Int → Int → Int → Int → Option zUd
def yAu (k : Nat) (rec : qNd) (s1 : List Int) (s6 b0_0 b0_1 b0_2 b0_3 b0_4 b0_5 b0_6 b1_0 b1_1 b1_2 b1_3 b1_4 b1_5 b1_6 : Int) : Option zUd :=
 bif decide (s6 < (s1.length : Int)) then (bif decide (s6 < 6) then (bif zE s6 s1.length then (bif decide (s6 = 0) then (rec s1 (zC (s6 + 1)) b0_0 b0_1 b0_2 b0_3 b0_4 b0_5 b0_6 b1_0 (s1.getD s6.toNat 0) b1_2 b1_3 b1_4 b1_5 b1_6)
    else bif decide (s6 = 1) then (rec s1 (zC (s6 + 1)) b0_0 b0_1 b0_2 b0_3 b0_4 b0_5 b0_6 b1_0 b1_1 (s1.getD s6.toNat 0) b1_3 b1_4 b1_5 b1_6)
    else bif decide (s6 = 2) then (rec s1 (zC (s6 + 1)) b0_0 b0_1 b0_2 b0_3 b0_4 b0_5 b0_6 b1_0 b1_1 b1_2 (s1.getD s6.toNat 0) b1_4 b1_5 b1_6)
    else bif decide (s6 = 3) then (rec s1 (zC (s6 + 1)) b0_0 b0_1 b0_2 b0_3 b0_4 b0_5 b0_6 b1_0 b1_1 b1_2 b1_3 (s1.getD s6.toNat 0) b1_5 b1_6)
    else bif decide (s6 = 4) then (rec s1 (zC (s6 + 1)) b0_0 b0_1 b0_2 b0_3 b0_4 b0_5 b0_6 b1_0 b1_1 b1_2 b1_3 b1_4 (s1.getD s6.toNat 0) b1_6)
    else bif decide (s6 = 5) then (rec s1 (zC (s6 + 1)) b0_0 b0_1 b0_2 b0_3 b0_4 b0_5 b0_6 b1_0 b1_1 b1_2 b1_3 b1_4 b1_5 (s1.getD s6.toNat 0))
    else none)
   else none)
  else some (b0_0, b0_1, b0_2, b0_3, b0_4, b0_5, b0_6, b1_0, b1_1, b1_2, b1_3, b1_4, b1_5, b1_6))
 else some (b0_0, b0_1, b0_2, b0_3, b0_4, b0_5, b0_6, b1_0, b1_1, b1_2, b1_3, b1_4, b1_5, b1_6)
def zY0 (k : Nat) : Nat → qNd
 | 0, _, _, _, _, _, _, _, _, _, _, _, _, _, _, _, _ => none
 | n + 1, s1, s6, b0_0, b0_1, b0_2, b0_3, b0_4, b0_5, b0_6, b1_0, b1_1, b1_2, b1_3, b1_4, b1_5, b1_6 => yAu k (zY0 k n) s1 s6 b0_0 b0_1 b0_2 b0_3 b0_4 b0_5 b0_6 b1_0 b1_1 b1_2 b1_3 b1_4 b1_5 b1_6
def qO2 (k : Nat) (a0 : Int) (a1 : List Int) : Option zF :=
 (zY0 k k a1 0 0 0 0 0 0 0 0 a0 0 0 0 0 0 0).bind fun z =>
 some (z.2.2.2.2.2.2.2.1, z.2.2.2.2.2.2.2.2.1, z.2.2.2.2.2.2.2.2.2.1, z.2.2.2.2.2.2.2.2.2.2.1, z.2.2.2.2.2.2.2.2.2.2.2.1, z.2.2.2.2.2.2.2.2.2.2.2.2.1, z.2.2.2.2.2.2.2.2.2.2.2.2.2)
def qZ9 (k : Nat) (vH0 : List zQ) (vH1 : List (List Int)) (vH2 : List Int) (vH3 : List (List Int)) (a1ID a1From a1To a1Amount a1Class a1Start a1Till : Int) : Option Bool :=
 bif decide (a1From ≥ 0) then (bif decide (a1From < (vH0.length : Int)) then (bif decide (a1To ≥ 0) then (bif decide (a1To < (vH0.length : Int)) then (bif !(decide (a1From = a1To)) then (bif decide (a1Amount ≥ 1) then (bif decide (a1Amount ≤ 1099511627776) then (bif decide (a1Class ≥ 1) then some (decide (a1Class ≤ 3))
        else some false)
       else some false)
      else some false)
     else some false)
    else some false)
   else some false)
  else some false)
 else some false
abbrev qSx : Type := (List zF) ⊕ Bool
abbrev yFk : Type := List zF → Int → List zQ → List (List Int) → List Int → List (List Int) → Option qSx
def zN3 (k : Nat) (rec : yFk) (s1 : List zF) (s5 : Int) (b0_0 : List zQ) (b0_1 : List (List Int)) (b0_2 : List Int) (b0_3 : List (List Int)) : Option qSx :=
 bif decide (s5 < (s1.length : Int)) then (bif zE s5 s1.length then ((qZ9 k b0_0 b0_1 b0_2 b0_3 (s1.getD s5.toNat (0, 0, 0, 0, 0, 0, 0)).1 (s1.getD s5.toNat (0, 0, 0, 0, 0, 0, 0)).2.1 (s1.getD s5.toNat (0, 0, 0, 0, 0, 0, 0)).2.2.1 (s1.getD s5.toNat (0, 0, 0, 0, 0, 0, 0)).2.2.2.1 (s1.getD s5.toNat (0, 0, 0, 0, 0, 0, 0)).2.2.2.2.1 (s1.getD s5.toNat (0, 0, 0, 0, 0, 0, 0)).2.2.2.2.2.1 (s1.getD s5.toNat (0, 0, 0, 0, 0, 0, 0)).2.2.2.2.2.2).bind fun x0 =>
   bif !x0 then some (.inr false)
   else rec s1 (zC (s5 + 1)) b0_0 b0_1 b0_2 b0_3)
  else none)
 else some (.inl s1)
def qHp (k : Nat) : Nat → yFk
 | 0, _, _, _, _, _, _ => none
 | n + 1, s1, s5, b0_0, b0_1, b0_2, b0_3 => zN3 k (qHp k n) s1 s5 b0_0 b0_1 b0_2 b0_3
def qF1 (k : Nat) (vH0 : List zQ) (vH1 : List (List Int)) (vH2 : List Int) (vH3 : List (List Int)) (a1 : List zF) : Option Bool :=
 (qHp k k a1 0 vH0 vH1 vH2 vH3).bind fun z =>
 match z with
 | .inl z1 => some (decide ((z1.length : Int) ≤ 64))
 | .inr z2 => some z2
abbrev qZe : Type := List (List Int) → Int → List (List Int) → Option (List (List Int))
def zRo (k : Nat) (rec : qZe) (s0 : List (List Int)) (s4 : Int) (m0 : List (List Int)) : Option (List (List Int)) :=
 bif decide (s4 < (s0.length : Int)) then (bif zE s4 s0.length then (bif zY (0 + (s0.getD s4.toNat []).length) 8 then (bif zY (m0.length + 1) 24 then (rec s0 (zC (s4 + 1)) (m0 ++ [(s0.getD s4.toNat [])]))
    else none)
   else none)
  else none)
 else some m0
def qK1 (k : Nat) : Nat → qZe
 | 0, _, _, _ => none
 | n + 1, s0, s4, m0 => zRo k (qK1 k n) s0 s4 m0
def zV2 (k : Nat) (a0 : List (List Int)) : Option (List (List Int)) :=
 (qK1 k k a0 0 []).bind fun z =>
 some z
def qJw (k : Nat) (vH0 : List zQ) (vH1 : List (List Int)) (vH2 : List Int) (vH3 : List (List Int)) : Option zOb :=
 bif zY (0 + vH0.length) 24 then ((zV2 k vH1).bind fun x0 =>
  bif zY (0 + vH2.length) 8 then ((zV2 k vH3).bind fun x1 =>
   some (vH0, x0, vH2, x1))
  else none)
 else none
abbrev qP8 : Type := List zF → Int → Int → Int → Int → Option vX
def zQx (k : Nat) (rec : qP8) (s0 : List zF) (s1 s6 s7 s8 : Int) : Option vX :=
 bif decide (s8 < (s0.length : Int)) then (bif zE s8 s0.length then (bif !(decide ((s0.getD s8.toNat (0, 0, 0, 0, 0, 0, 0)).2.1 = s1)) then (rec s0 s1 s6 s7 (zC (s8 + 1)))
   else bif zE s8 s0.length then (bif decide ((s0.getD s8.toNat (0, 0, 0, 0, 0, 0, 0)).2.2.2.2.1 = 3) then (bif zE s8 s0.length then (rec s0 s1 (zC (s6 + (s0.getD s8.toNat (0, 0, 0, 0, 0, 0, 0)).2.2.2.1)) s7 (zC (s8 + 1)))
     else none)
    else bif zE s8 s0.length then (rec s0 s1 s6 (zC (s7 + (s0.getD s8.toNat (0, 0, 0, 0, 0, 0, 0)).2.2.2.1)) (zC (s8 + 1)))
    else none)
   else none)
  else none)
 else some (s6, s7)
def qHz (k : Nat) : Nat → qP8
 | 0, _, _, _, _, _ => none
 | n + 1, s0, s1, s6, s7, s8 => zQx k (qHz k n) s0 s1 s6 s7 s8
def qLc (k : Nat) (a0 : List zF) (a1 : Int) : Option vX :=
 (qHz k k a0 a1 0 0 0).bind fun z =>
 some (z.1, z.2)
def qEd (k : Nat) (a0 : List zF) (a1 : Int) : Option Int :=
 (qLc k a0 a1).bind fun x0 =>
 some x0.2
def qG2 (k : Nat) (vHx vHy vHz a1 : Int) : Option Int :=
 bif decide (a1 ≥ vHz) then some 0
 else some (zC (vHz - a1))
abbrev qQb : Type := List zF → Int → Int → Int → Int → Option Int
def zOm (k : Nat) (rec : qQb) (s0 : List zF) (s1 s2 s7 s8 : Int) : Option Int :=
 bif decide (s8 < (s0.length : Int)) then (bif zE s8 s0.length then (bif decide ((s0.getD s8.toNat (0, 0, 0, 0, 0, 0, 0)).2.1 = s1) then (bif zE s8 s0.length then (bif decide ((s0.getD s8.toNat (0, 0, 0, 0, 0, 0, 0)).2.2.1 = s2) then (bif zE s8 s0.length then (rec s0 s1 s2 (zC (s7 + (s0.getD s8.toNat (0, 0, 0, 0, 0, 0, 0)).2.2.2.1)) (zC (s8 + 1)))
      else none)
     else rec s0 s1 s2 s7 (zC (s8 + 1)))
    else none)
   else rec s0 s1 s2 s7 (zC (s8 + 1)))
  else none)
 else some s7
def zZt (k : Nat) : Nat → qQb
 | 0, _, _, _, _, _ => none
 | n + 1, s0, s1, s2, s7, s8 => zOm k (zZt k n) s0 s1 s2 s7 s8
def zZh (k : Nat) (a0 : List zF) (a1 a2 : Int) : Option Int :=
 (zZt k k a0 a1 a2 0 0).bind fun z =>
 some z
def qDc (k : Nat) (a0 : List zF) (a1 a2 : Int) : Option Int :=
 (zZh k a0 a1 a2).bind fun x0 =>
 (zZh k a0 a2 a1).bind fun x1 =>
 some (zC (x0 - x1))
abbrev yD0 : Type := List (List Int) → Int → Int → Option (Unit ⊕ Bool)
def zRi (k : Nat) (rec : yD0) (s0 : List (List Int)) (s1 s5 : Int) : Option (Unit ⊕ Bool) :=
 bif decide (s5 < s1) then (bif zE s5 s0.length then (bif !(decide (((s0.getD s5.toNat []).length : Int) = s1)) then some (.inr false)
   else rec s0 s1 (zC (s5 + 1)))
  else none)
 else some (.inl ())
def qGh (k : Nat) : Nat → yD0
 | 0, _, _, _ => none
 | n + 1, s0, s1, s5 => zRi k (qGh k n) s0 s1 s5
def zVb (k : Nat) (a0 : List (List Int)) (a1 : Int) : Option Bool :=
 bif !(decide ((a0.length : Int) = a1)) then some false
 else (qGh k k a0 a1 0).bind fun z =>
 match z with
 | .inl z1 => some true
 | .inr z2 => some z2
def qA5 (k : Nat) (vHx vHy vHz : Int) : Option Bool :=
 bif decide (vHx > (-4611686018427387904)) then (bif decide (vHx < 4611686018427387904) then (bif decide (vHy ≥ 0) then (bif decide (vHy ≤ 2305843009213693952) then (bif decide (vHz ≥ 0) then some (decide (vHz ≤ 2305843009213693952))
     else some false)
    else some false)
   else some false)
  else some false)
 else some false
def zXl (k : Nat) (a0 : Int) : Option Bool :=
 bif decide (a0 ≥ (-1)) then some (decide (a0 ≤ 2305843009213693952))
 else some false
abbrev qV1 : Type := (Int × Int × (List zQ) × (List (List Int)) × (List Int) × (List (List Int))) ⊕ Bool
abbrev yIa : Type := Int → Int → Int → List zQ → List (List Int) → List Int → List (List Int) → Option qV1
def zQn (k : Nat) (rec : yIa) (s3 s4 s5 : Int) (b0_0 : List zQ) (b0_1 : List (List Int)) (b0_2 : List Int) (b0_3 : List (List Int)) : Option qV1 :=
 bif decide (s5 < s3) then (bif zE s4 b0_1.length then (bif zE s5 (b0_1.getD s4.toNat []).length then ((zXl k ((b0_1.getD s4.toNat []).getD s5.toNat 0)).bind fun x4 =>
    bif !x4 then some (.inr false)
    else bif zE s4 b0_3.length then (bif zE s5 (b0_3.getD s4.toNat []).length then (bif decide (((b0_3.getD s4.toNat []).getD s5.toNat 0) ≤ (-72057594037927936)) then some (.inr false)
      else bif zE s4 b0_3.length then (bif zE s5 (b0_3.getD s4.toNat []).length then (bif decide (((b0_3.getD s4.toNat []).getD s5.toNat 0) ≥ 72057594037927936) then some (.inr false)
        else bif zE s4 b0_3.length then (bif zE s5 (b0_3.getD s4.toNat []).length then (bif zE s5 b0_3.length then (bif zE s4 (b0_3.getD s5.toNat []).length then (bif !(decide (((b0_3.getD s4.toNat []).getD s5.toNat 0) = (zC (0 - ((b0_3.getD s5.toNat []).getD s4.toNat 0))))) then some (.inr false)
            else rec s3 s4 (zC (s5 + 1)) b0_0 b0_1 b0_2 b0_3)
           else none)
          else none)
         else none)
        else none)
       else none)
      else none)
     else none)
    else none)
   else none)
  else none)
 else some (.inl (s3, s4, b0_0, b0_1, b0_2, b0_3))
def zYa (k : Nat) : Nat → yIa
 | 0, _, _, _, _, _, _, _ => none
 | n + 1, s3, s4, s5, b0_0, b0_1, b0_2, b0_3 => zQn k (zYa k n) s3 s4 s5 b0_0 b0_1 b0_2 b0_3
abbrev yCk : Type := Int → Int → List zQ → List (List Int) → List Int → List (List Int) → Option (Unit ⊕ Bool)
def zR6 (k : Nat) (rec : yCk) (s3 s4 : Int) (b0_0 : List zQ) (b0_1 : List (List Int)) (b0_2 : List Int) (b0_3 : List (List Int)) : Option (Unit ⊕ Bool) :=
 bif decide (s4 < s3) then (bif zE s4 b0_0.length then ((qA5 k (b0_0.getD s4.toNat (0, 0, 0)).1 (b0_0.getD s4.toNat (0, 0, 0)).2.1 (b0_0.getD s4.toNat (0, 0, 0)).2.2).bind fun x2 =>
   bif !x2 then some (.inr false)
   else bif zE s4 b0_2.length then ((zXl k (b0_2.getD s4.toNat 0)).bind fun x3 =>
    bif !x3 then some (.inr false)
    else (zYa k k s3 s4 0 b0_0 b0_1 b0_2 b0_3).bind fun z =>
    match z with
    | .inl z1 => rec z1.1 (zC (z1.2.1 + 1)) z1.2.2.1 z1.2.2.2.1 z1.2.2.2.2.1 z1.2.2.2.2.2
    | .inr z2 => some (.inr z2))
   else none)
  else none)
 else some (.inl ())
def zWw (k : Nat) : Nat → yCk
 | 0, _, _, _, _, _, _ => none
 | n + 1, s3, s4, b0_0, b0_1, b0_2, b0_3 => zR6 k (zWw k n) s3 s4 b0_0 b0_1 b0_2 b0_3
def qIr (k : Nat) (vH0 : List zQ) (vH1 : List (List Int)) (vH2 : List Int) (vH3 : List (List Int)) : Option Bool :=
 bif decide ((vH0.length : Int) < 1) then some false
 else bif decide ((vH0.length : Int) > 6) then some false
 else (zVb k vH1 (vH0.length : Int)).bind fun x0 =>
 bif !x0 then some false
 else (zVb k vH3 (vH0.length : Int)).bind fun x1 =>
 bif !x1 then some false
 else bif !(decide ((vH2.length : Int) = (vH0.length : Int))) then some false
 else (zWw k k (vH0.length : Int) 0 vH0 vH1 vH2 vH3).bind fun z3 =>
 match z3 with
 | .inl z4 => some true
 | .inr z5 => some z5
abbrev qW5 : Type := (List zF) × Int × (List zQ) × (List (List Int)) × (List Int) × (List (List Int)) × (List zQ) × (List (List Int)) × (List Int) × (List (List Int))
abbrev qQg : Type := List zF → Int → Int → List zQ → List (List Int) → List Int → List (List Int) → List zQ → List (List Int) → List Int → List (List Int) → Option qW5
def zQ3 (k : Nat) (rec : qQg) (s1 : List zF) (s7 s8 : Int) (b0_0 : List zQ) (b0_1 : List (List Int)) (b0_2 : List Int) (b0_3 : List (List Int)) (r3 : List zQ) (m4 : List (List Int)) (r5 : List Int) (m6 : List (List Int)) : Option qW5 :=
 bif decide (s8 < (r3.length : Int)) then ((qDc k s1 s7 s8).bind fun x4 =>
  bif zE s7 r3.length then (bif zE s7 r3.length then (let y1 : List zQ := (r3.set s7.toNat ((zC ((r3.getD s7.toNat (0, 0, 0)).1 - x4)), (r3.getD s7.toNat (0, 0, 0)).2))
    bif zE s7 m6.length then (bif zE s7 m6.length then (bif zE s8 (m6.getD s7.toNat []).length then (bif zE s8 (m6.getD s7.toNat []).length then (let y2 : List (List Int) := (m6.set s7.toNat ((m6.getD s7.toNat []).set s8.toNat (zC (((m6.getD s7.toNat []).getD s8.toNat 0) + x4))))
        rec s1 s7 (zC (s8 + 1)) b0_0 b0_1 b0_2 b0_3 y1 m4 r5 y2)
       else none)
      else none)
     else none)
    else none)
   else none)
  else none)
 else some (s1, s7, b0_0, b0_1, b0_2, b0_3, r3, m4, r5, m6)
def zXk (k : Nat) : Nat → qQg
 | 0, _, _, _, _, _, _, _, _, _, _, _ => none
 | n + 1, s1, s7, s8, b0_0, b0_1, b0_2, b0_3, r3, m4, r5, m6 => zQ3 k (zXk k n) s1 s7 s8 b0_0 b0_1 b0_2 b0_3 r3 m4 r5 m6
abbrev yFq : Type := (List zQ) × (List (List Int)) × (List Int) × (List (List Int)) × (List zQ) × (List (List Int)) × (List Int) × (List (List Int))
abbrev qQt : Type := List zF → Int → List zQ → List (List Int) → List Int → List (List Int) → List zQ → List (List Int) → List Int → List (List Int) → Option yFq
def zRh (k : Nat) (rec : qQt) (s1 : List zF) (s7 : Int) (b0_0 : List zQ) (b0_1 : List (List Int)) (b0_2 : List Int) (b0_3 : List (List Int)) (r3 : List zQ) (m4 : List (List Int)) (r5 : List Int) (m6 : List (List Int)) : Option yFq :=
 bif decide (s7 < (r3.length : Int)) then (bif zE s7 r3.length then ((qEd k s1 s7).bind fun x2 =>
   (qG2 k (r3.getD s7.toNat (0, 0, 0)).1 (r3.getD s7.toNat (0, 0, 0)).2.1 (r3.getD s7.toNat (0, 0, 0)).2.2 x2).bind fun x3 =>
   bif zE s7 r3.length then (let y0 : List zQ := (r3.set s7.toNat ((r3.getD s7.toNat (0, 0, 0)).1, (r3.getD s7.toNat (0, 0, 0)).2.1, x3))
    (zXk k k s1 s7 0 b0_0 b0_1 b0_2 b0_3 y0 m4 r5 m6).bind fun z =>
    rec z.1 (zC (z.2.1 + 1)) z.2.2.1 z.2.2.2.1 z.2.2.2.2.1 z.2.2.2.2.2.1 z.2.2.2.2.2.2.1 z.2.2.2.2.2.2.2.1 z.2.2.2.2.2.2.2.2.1 z.2.2.2.2.2.2.2.2.2)
   else none)
  else none)
 else some (b0_0, b0_1, b0_2, b0_3, r3, m4, r5, m6)
def zUc (k : Nat) : Nat → qQt
 | 0, _, _, _, _, _, _, _, _, _, _ => none
 | n + 1, s1, s7, b0_0, b0_1, b0_2, b0_3, r3, m4, r5, m6 => zRh k (zUc k n) s1 s7 b0_0 b0_1 b0_2 b0_3 r3 m4 r5 m6
def qNw (k : Nat) (vH0 : List zQ) (vH1 : List (List Int)) (vH2 : List Int) (vH3 : List (List Int)) (a1 : List zF) : Option ((List zQ) × (List (List Int)) × (List Int) × (List (List Int)) × Int) :=
 (qF1 k vH0 vH1 vH2 vH3 a1).bind fun x0 =>
 bif !x0 then some (vH0, vH1, vH2, vH3, 1)
 else (qJw k vH0 vH1 vH2 vH3).bind fun x1 =>
 (zUc k k a1 0 vH0 vH1 vH2 vH3 x1.1 x1.2.1 x1.2.2.1 x1.2.2.2).bind fun z1 =>
 (qIr k z1.2.2.2.2.1 z1.2.2.2.2.2.1 z1.2.2.2.2.2.2.1 z1.2.2.2.2.2.2.2).bind fun x5 =>
 bif !x5 then some (jF z1 8)
 else some (qWc z1 0)
def zPd (k : Nat) (a0 a1 : Int) (a2 : List Int) : Option qJ :=
 (qO2 k a1 a2).bind fun x0 =>
 some (a0, x0)
abbrev zYy : Type := (List Int) × Int × (List Int)
abbrev qAz : Type := List Int → Int → Int → List Int → Option zYy
def yJa (k : Nat) (rec : qAz) (s0 : List Int) (s4 s5 : Int) (r0 : List Int) : Option zYy :=
 bif decide (s5 ≥ 0) then (bif zE s4 s0.length then (bif !(decide ((IntKind.wrap .u64 (s5)) < 0)) then (bif zY (r0.length + 1) 1 then (rec s0 s4 (zC (s5 - 8)) (r0 ++ [(IntKind.wrap .u8 ((shr .u64 (IntKind.wrap .u64 ((s0.getD s4.toNat 0))) (IntKind.wrap .u64 (s5)))))]))
    else none)
   else none)
  else none)
 else some (s0, s4, r0)
def qHx (k : Nat) : Nat → qAz := vG (fun _ _ _ _ => none) (yJa k)
abbrev qNj : Type := List Int → Int → List Int → Option (List Int)
def yD8 (k : Nat) (rec : qNj) (s0 : List Int) (s4 : Int) (r0 : List Int) : Option (List Int) :=
 bif decide (s4 < (s0.length : Int)) then ((qHx k k s0 s4 56 r0).bind fun z =>
  rec z.1 (zC (z.2.1 + 1)) z.2.2)
 else some r0
def qA6 (k : Nat) : Nat → qNj := vG (fun _ _ _ => none) (yD8 k)
def qVh (k : Nat) (a0 : List Int) : Option (List Int) :=
 (qA6 k k a0 0 []).bind fun z1 =>
 some z1
def yFa (k : Nat) (a0 : zF) : Option (List Int) :=
 (yGq k a0).bind fun x0 =>
 bif !x0 then some []
 else (qGm k a0.1).bind fun x1 =>
 bif (decide (0 ≤ x1)) && (decide (x1 ≤ 6)) then ((qVh k (qY [a0.2.1, a0.2.2.1, a0.2.2.2.1, a0.2.2.2.2.1, a0.2.2.2.2.2.1, a0.2.2.2.2.2.2] 0 (x1.toNat - 0))).bind fun x2 =>
  bif zY (1 + x2.length) 1 then some ([(IntKind.wrap .u8 (a0.1))] ++ x2)
  else none)
 else none
def zO8 (k : Nat) (a0 : qJ) : Option K3q :=
 (yFa k a0.2).bind fun x0 =>
 some (1, a0.1, x0, 0, 0)
end Go.Ab.Gi
