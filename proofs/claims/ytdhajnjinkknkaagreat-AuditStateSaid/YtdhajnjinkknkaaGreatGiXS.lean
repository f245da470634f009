/- part 5 -/
import Derived.Test.YtdhajnjinkknkaaGreatGiAbD
set_option linter.unusedVariables false
set_option maxRecDepth 100000
namespace Go.Ab.Gi
abbrev y0q : Go.Ab.Ty := .pair (.int .i64) (.int .i64)
abbrev wF : Type := Int × Bool
abbrev K2q : Type := Int × Int × Bool
abbrev yP : Type := Int × Int × Int × Int × Int × Int × Int × Int
abbrev zD : Type := Int × Int × Int × Int × Int × Int × Int
abbrev zO : Type := Int × Int × Int
abbrev vQ : Type := Int × Int
abbrev K7q : Type := (List zO) × (List (List Int)) × (List Int) × (List (List Int)) × (List zD) × (List zD)
abbrev yI : Go.Ab.Ty := .pair (.int .i64) y0q
abbrev K9q : Type := Bool × Int × Int × Int × Int × Int × Int × Int × Int × Int × Int × Int × Int × Int × Int × (List zO) × (List (List Int)) × (List Int) × (List (List Int))
abbrev qF7 : Type := Int × (List zO) × (List (List Int)) × (List Int) × (List (List Int)) × (List Int) × (List (List Int)) × (List zD) × (List Int) × Int × Bool × (List yP)
abbrev vH : Type := Int × (List zO) × (List (List Int)) × (List Int) × (List (List Int)) × (List Int) × (List (List Int)) × (List zD) × (List Int) × Int × Bool
abbrev wJ : Type := Int × (List vQ) × Int × Int × Int × Int × (List zO) × (List (List Int)) × (List Int) × (List (List Int)) × (List Int) × (List (List Int)) × (List zD) × (List Int) × Int × Bool × Int × (List yP)
abbrev zA8 : Type := Int × (List vQ) × Int × Int × Int × Int × (List zO) × (List (List Int)) × (List Int) × (List (List Int)) × (List Int) × (List (List Int)) × (List zD) × (List Int) × Int × Bool × Int
abbrev yV : Type := Int × (List vQ) × Int × Int × Int
abbrev yRq : Go.Ab.Ty := .pair (.int .i64) yI
abbrev vFn : Go.Ab.Ty := .pair (.int .i64) yRq
abbrev vJ2 : Go.Ab.Ty := .pair (.int .i64) vFn
abbrev zI : Go.Ab.Ty := .pair (.int .i64) vJ2
abbrev yR : Go.Ab.Ty := .pair (.int .i64) zI
abbrev qKg : List Go.Ab.CS := [.dat false (.int .i64), .dat false (.int .i64), .dat false (.sl (.int .i64))]
abbrev jF : List Go.Ab.CS := [.dat false yI, .dat false (.sl (.int .i64)), .dat false (.int .i64), .dat false (.sl (.int .i64))]
abbrev jI : List Go.Ab.CS := [.dat true yI, .dat true (.sl (.int .i64)), .dat true (.int .i64), .dat true (.sl (.int .i64))]
abbrev zBl : List Go.Ab.CS := [.int .i64, .dat false y0q, .int .i64, .int .i64, .int .i64]
abbrev zCv : List Go.Ab.CS := [.int .i64, .dat false yI, .dat false (.sl (.int .i64)), .dat false (.int .i64), .dat false (.sl (.int .i64)), .dat false (.int .i64), .dat false (.sl (.int .i64)), .dat false zI, .dat false (.int .i64), .int .i64, .bool]
abbrev qFq : List Go.Ab.CS := [.int .i64, .dat true y0q, .int .i64, .int .i64, .int .i64, .int .i64, .dat true yI, .dat true (.sl (.int .i64)), .dat true (.int .i64), .dat true (.sl (.int .i64)), .dat true (.int .i64), .dat true (.sl (.int .i64)), .dat true zI, .dat true (.int .i64), .int .i64, .bool, .int .i64, .lit (.osl 1001001 none)]
abbrev qFh : List Go.Ab.CS := [.int .i64, .dat true y0q, .int .i64, .int .i64, .int .i64, .int .i64, .dat true yI, .dat true (.sl (.int .i64)), .dat true (.int .i64), .dat true (.sl (.int .i64)), .dat true (.int .i64), .dat true (.sl (.int .i64)), .dat true zI, .dat true (.int .i64), .int .i64, .bool, .int .i64, .lit .nsl]
abbrev zGf : List Go.Ab.CS := [.int .i64, .dat true yI, .dat true (.sl (.int .i64)), .dat true (.int .i64), .dat true (.sl (.int .i64)), .dat true (.int .i64), .dat true (.sl (.int .i64)), .dat true zI, .dat true (.int .i64), .int .i64, .bool]
abbrev zCf : List Go.Ab.CS := [.int .i64, .int .i64, .int .i64, .int .i64, .int .i64, .int .i64, .int .i64]
abbrev yDy : List Go.Ab.CS := [.int .i64, .int .i64, .int .i64, .int .i64, .int .i64, .int .i64, .int .i64, .int .i64, .int .i64, .int .i64, .int .i64, .int .i64, .int .i64, .int .i64, .dat true yI, .dat true (.sl (.int .i64)), .dat true (.int .i64), .dat true (.sl (.int .i64))]
abbrev zZ4 : List Go.Ab.CS := [.int .i64, .int .i64, .int .i64, .int .i64, .int .i64, .int .i64, .int .i64, .int .i64, .int .i64, .int .i64, .int .i64, .int .i64, .int .i64, .int .i64, .lit .nsl, .lit .nsl, .lit .nsl, .lit .nsl]
abbrev yGv : List Go.Ab.CS := [.int .i64, .lit (.osl 1001003 none), .lit (.osl 1001004 none), .lit (.osl 1001005 none), .lit (.osl 1001006 none), .lit (.osl 1001007 none), .lit .nsl, .lit .nsl, .lit .nsl, .int .i64, .bool]
abbrev zEj : List Go.Ab.CS := [.int .i64, .lit .nsl, .lit .nsl, .lit .nsl, .lit .nsl, .lit .nsl, .lit .nsl, .lit .nsl, .lit .nsl, .int .i64, .bool]
abbrev qPr : List Go.Ab.CS := [.lit (.osl 1001002 none), .lit (.osl 1001003 none), .lit (.osl 1001004 none)]
abbrev zG3 : List Go.Ab.CS := [.lit (.osl 1001003 none), .lit (.osl 1001004 none), .lit (.osl 1001005 none), .lit (.osl 1001006 none)]
abbrev qSq : List Go.Ab.CS := [.lit (.osl 1001004 none), .lit (.osl 1001005 none), .lit (.osl 1001006 none), .lit (.osl 1001007 none)]
abbrev zF4 : List Go.Ab.CS := [.lit .nsl, .lit .nsl, .lit .nsl, .lit .nsl]
abbrev zYb : List Go.Ab.PC := [.dat false (.int .i64), .dat false (.int .i64), .dat false (.sl (.int .i64))]
abbrev wC : List Go.Ab.PC := [.dat false yI, .dat false (.sl (.int .i64)), .dat false (.int .i64), .dat false (.sl (.int .i64))]
abbrev zC2 : List Go.Ab.PC := [.dat true yI, .dat true (.sl (.int .i64)), .dat true (.int .i64), .dat true (.sl (.int .i64))]
abbrev zBx : List Go.Ab.PC := [.int .i64, .dat false y0q, .int .i64, .int .i64, .int .i64]
abbrev qDg : List Go.Ab.PC := [.int .i64, .dat false y0q, .int .i64, .int .i64, .int .i64, .int .i64, .dat false yI, .dat false (.sl (.int .i64)), .dat false (.int .i64), .dat false (.sl (.int .i64)), .dat false (.int .i64), .dat false (.sl (.int .i64)), .dat false zI, .dat false (.int .i64), .int .i64, .bool, .int .i64, .dat false yR]
abbrev zDt : List Go.Ab.PC := [.int .i64, .dat false yI, .dat false (.sl (.int .i64)), .dat false (.int .i64), .dat false (.sl (.int .i64)), .dat false (.int .i64), .dat false (.sl (.int .i64)), .dat false zI, .dat false (.int .i64), .int .i64, .bool]
abbrev qN9 : List Go.Ab.PC := [.int .i64, .dat true yI, .dat true (.sl (.int .i64)), .dat true (.int .i64), .dat true (.sl (.int .i64)), .dat false (.int .i64), .dat false (.sl (.int .i64)), .dat true zI, .dat false (.int .i64), .int .i64, .bool]
abbrev zRg : List Go.Ab.PC := [.int .i64, .dat true yI, .dat true (.sl (.int .i64)), .dat true (.int .i64), .dat true (.sl (.int .i64)), .dat true (.int .i64), .dat true (.sl (.int .i64)), .dat true zI, .dat true (.int .i64), .int .i64, .bool]
abbrev zCa : List Go.Ab.PC := [.int .i64, .int .i64, .int .i64]
abbrev vP : List Go.Ab.PC := [.int .i64, .int .i64, .int .i64, .int .i64, .int .i64, .int .i64, .int .i64]
abbrev qBx : List Go.Ab.PC := [.int .i64, .int .i64, .int .i64, .int .i64, .int .i64, .int .i64, .int .i64, .int .i64]
abbrev zAs : List Go.Ab.RC := [.fro yI, .fro (.sl (.int .i64)), .fro (.int .i64), .fro (.sl (.int .i64))]
abbrev qX : List Go.Ab.RC := [.int .i64]
abbrev vT : List Go.Ab.RC := [.int .i64, .fro y0q, .int .i64, .int .i64, .int .i64, .int .i64, .fro yI, .fro (.sl (.int .i64)), .fro (.int .i64), .fro (.sl (.int .i64)), .fro (.int .i64), .fro (.sl (.int .i64)), .fro zI, .fro (.int .i64), .int .i64, .bool, .int .i64, .own yR]
abbrev zG7 : List Go.Ab.RC := [.int .i64, .fro yI, .fro (.sl (.int .i64)), .fro (.int .i64), .fro (.sl (.int .i64)), .fro (.int .i64), .fro (.sl (.int .i64)), .fro zI, .fro (.int .i64), .int .i64, .bool]
abbrev qRy : List Go.Ab.RC := [.int .i64, .fro yI, .fro (.sl (.int .i64)), .fro (.int .i64), .fro (.sl (.int .i64)), .fro (.int .i64), .fro (.sl (.int .i64)), .own zI, .fro (.int .i64), .int .i64, .bool]
abbrev zKk : List Go.Ab.RC := [.int .i64, .int .i64, .int .i64]
abbrev zCx : List Go.Ab.RC := [.int .i64, .int .i64, .int .i64, .int .i64, .int .i64, .int .i64, .int .i64]
abbrev yBi : List Go.Ab.RC := [.int .i64, .int .i64, .int .i64, .int .i64, .int .i64, .int .i64, .int .i64, .int .i64, .int .i64, .int .i64, .int .i64, .int .i64, .int .i64, .int .i64, .fro yI, .fro (.sl (.int .i64)), .fro (.int .i64), .fro (.sl (.int .i64))]
abbrev yNf : List Go.Ab.RC := [.int .i64, .own y0q, .int .i64, .int .i64, .int .i64, .int .i64, .own yI, .mat, .own (.int .i64), .mat, .own (.int .i64), .mat, .own zI, .own (.int .i64), .int .i64, .bool, .int .i64, .own yR]
abbrev qYv : List Go.Ab.RC := [.int .i64, .own yI, .mat, .own (.int .i64), .mat, .own (.int .i64), .mat, .own zI, .own (.int .i64), .int .i64, .bool]
abbrev zZq : List Go.Ab.RC := [.own yI, .mat, .own (.int .i64), .mat]
abbrev zHa : List Go.Ab.XC := [.p (.int .i64), .p (.dat true y0q), .p (.int .i64), .p (.int .i64), .p (.int .i64), .p (.int .i64), .p (.dat true yI), .p (.dat true (.sl (.int .i64))), .p (.dat true (.int .i64)), .p (.dat true (.sl (.int .i64))), .p (.dat true (.int .i64)), .p (.dat true (.sl (.int .i64))), .p (.dat true zI), .p (.dat true (.int .i64)), .p (.int .i64), .p (.bool), .p (.int .i64), .own yR]
abbrev zGl : List Go.Ab.XC := [.p (.int .i64), .p (.dat true y0q), .p (.int .i64), .p (.int .i64), .p (.int .i64), .p (.int .i64), .p (.dat true yI), .p (.dat true (.sl (.int .i64))), .p (.dat true (.int .i64)), .p (.dat true (.sl (.int .i64))), .p (.dat true (.int .i64)), .p (.dat true (.sl (.int .i64))), .p (.dat true zI), .p (.dat true (.int .i64)), .p (.int .i64), .p (.bool), .p (.int .i64), .p (.nil)]
section
variable {A B C D E F G H I J K L M N O P Q R S U V W X Z a b T Y : Type}
abbrev zE3 (x : A × B × C × D) (t : T) := (x.1, x.2.1, x.2.2.1, x.2.2.2, t)
abbrev zBg (x : A × B × C × D × E) (t : T) := (x.1, zE3 x.2 t)
abbrev zGd (x : A × B × C × D × E × F) (t : T) := (x.1, zBg x.2 t)
abbrev zB3 (x : A × B × C × D × E × F × G) (t : T) := (x.1, zGd x.2 t)
abbrev qAi (x : A × B × C × D × E × F × G × H) (t : T) := (x.1, zB3 x.2 t)
abbrev qOn (x : A × B × C × D × E × F × G × H × I) (t : T) := (x.1, qAi x.2 t)
abbrev yZv (x : A × B × C × D × E × F × G × H × I × J) (t : T) := (x.1, qOn x.2 t)
abbrev zBq (x : A × B × C × D × E × F × G × H × I × J × K) (t : T) := (x.1, yZv x.2 t)
abbrev zQv (x : A × B × C × D × E × F × G × H × I × J × K × L) (t : T) := (x.1, zBq x.2 t)
abbrev vFj (x : A × B × C × D × E × F × G × H × I × J × K × L × M) (t : T) := (x.1, zQv x.2 t)
abbrev yLh (x : A × B × C × D × E × F × G × H × I × J × K × L × M × N) (t : T) := (x.1, vFj x.2 t)
abbrev yW5 (x : A × B × C × D × E × F × G × H × I × J × K × L × M × N × O) (t : T) := (x.1, yLh x.2 t)
abbrev vFc (x : A × B × C × D × E × F × G × H × I × J × K × L × M × N × O × P) (t : T) := (x.1, yW5 x.2 t)
abbrev yT (x : A × B × C × D × E × F × G × H × I × J × K × L × M × N × O × P × Q) (t : T) := (x.1, vFc x.2 t)
abbrev zAb (x : A × B × C × D × E × F × G × H × I × J × K × L × M × N × O × P × Q × R) (t : T) := (x.1, yT x.2 t)
abbrev yZ7 (x : A × B × C × D × E × F × G × H × I × J × K × L × M × N × O × P × Q × R × S) (t : T) := (x.1, zAb x.2 t)
abbrev zFt (x : A × B × C × D × E) := (x.1, x.2.1, x.2.2.1, x.2.2.2.1)
abbrev vA (x : A × B × C × D × E × F) := (x.1, zFt x.2)
abbrev zHm (x : A × B × C × D × E × F × G) := (x.1, vA x.2)
abbrev zAz (x : A × B × C × D × E × F × G × H) := (x.1, zHm x.2)
abbrev zPq (x : A × B × C × D × E × F × G × H × I) := (x.1, zAz x.2)
abbrev qJm (x : A × B × C × D × E × F × G × H × I × J) := (x.1, zPq x.2)
abbrev yYz (x : A × B × C × D × E × F × G × H × I × J × K) := (x.1, qJm x.2)
abbrev vK (x : A × B × C × D × E × F × G × H × I × J × K × L) := (x.1, yYz x.2)
abbrev zQl (x : A × B × C × D × E × F × G × H × I × J × K × L × M) := (x.1, vK x.2)
abbrev vA2 (x : A × B × C × D × E × F × G × H × I × J × K × L × M × N) := (x.1, zQl x.2)
abbrev yAk (x : A × B × C × D × E × F × G × H × I × J × K × L × M × N × O) := (x.1, vA2 x.2)
abbrev vCn (x : A × B × C × D × E × F × G × H × I × J × K × L × M × N × O × P) := (x.1, yAk x.2)
abbrev yRc (x : A × B × C × D × E × F × G × H × I × J × K × L × M × N × O × P × Q) := (x.1, vCn x.2)
abbrev zBa (x : A × B × C × D × E × F × G × H × I × J × K × L × M × N × O × P × Q × R) := (x.1, yRc x.2)
abbrev zAq (x : A × B × C × D × E × F × G × H × I × J × K × L × M × N × O × P × Q × R × S) := (x.1, zBa x.2)
abbrev vHk (x : A × B × C × D × E × F × G × H × I × J × K × L × M × N × O × P × Q × R × S × U) := (x.1, zAq x.2)
abbrev wD (x : A × B × C × D × E) (t : T) := (x.1, x.2.1, x.2.2.1, x.2.2.2.1, t)
abbrev zPt (x : A × B × C × D × E × F) (t : T) := (x.1, wD x.2 t)
abbrev zAr (x : A × B × C × D × E × F × G) (t : T) := (x.1, zPt x.2 t)
abbrev zQo (x : A × B × C × D × E × F × G × H) (t : T) := (x.1, zAr x.2 t)
abbrev vGq (x : A × B × C × D × E × F × G × H × I) (t : T) := (x.1, zQo x.2 t)
abbrev yV2 (x : A × B × C × D × E × F × G × H × I × J) (t : T) := (x.1, vGq x.2 t)
abbrev yZ5 (x : A × B × C × D × E × F × G × H × I × J × K) (t : T) := (x.1, yV2 x.2 t)
abbrev zFu (x : A × B × C × D × E × F × G × H × I × J × K × L) (t : T) := (x.1, yZ5 x.2 t)
abbrev zDd (x : A × B × C × D × E × F × G × H × I × J × K × L × M) (t : T) := (x.1, zFu x.2 t)
abbrev yRf (x : A × B × C × D × E × F × G × H × I × J × K × L × M × N) (t : T) := (x.1, zDd x.2 t)
abbrev qGk (x : A × B × C × D × E × F × G × H × I × J × K × L × M × N × O) (t : T) := (x.1, yRf x.2 t)
abbrev yTg (x : A × B × C × D × E × F × G × H × I × J × K × L × M × N × O × P) (t : T) := (x.1, qGk x.2 t)
abbrev vJl (x : A × B × C × D × E × F × G × H × I × J × K × L × M × N × O × P × Q) (t : T) := (x.1, yTg x.2 t)
abbrev qSh (x : A × B × C × D × E × F × G × H × I × J × K × L × M × N × O × P × Q × R) (t : T) := (x.1, vJl x.2 t)
abbrev yZ (f : A → B → C → D → Y) (x : A × B × C × D × E) : Y := f x.1 x.2.1 x.2.2.1 x.2.2.2.1
abbrev zAn (f : A → B → C → D → E → Y) (x : A × B × C × D × E × F) : Y := yZ (f x.1) x.2
abbrev zB4 (f : A → B → C → D → E → F → Y) (x : A × B × C × D × E × F × G) : Y := zAn (f x.1) x.2
abbrev zIu (f : A → B → C → D → E → F → G → Y) (x : A × B × C × D × E × F × G × H) : Y := zB4 (f x.1) x.2
abbrev zCr (f : A → B → C → D → E → F → G → H → Y) (x : A × B × C × D × E × F × G × H × I) : Y := zIu (f x.1) x.2
abbrev qHe (f : A → B → C → D → E → F → G → H → I → Y) (x : A × B × C × D × E × F × G × H × I × J) : Y := zCr (f x.1) x.2
abbrev ySc (f : A → B → C → D → E → F → G → H → I → J → Y) (x : A × B × C × D × E × F × G × H × I × J × K) : Y := qHe (f x.1) x.2
abbrev zC3 (f : A → B → C → D → E → F → G → H → I → J → K → Y) (x : A × B × C × D × E × F × G × H × I × J × K × L) : Y := ySc (f x.1) x.2
abbrev zWv (f : A → B → C → D → E → F → G → H → I → J → K → L → Y) (x : A × B × C × D × E × F × G × H × I × J × K × L × M) : Y := zC3 (f x.1) x.2
abbrev qOg (f : A → B → C → D → E → F → G → H → I → J → K → L → M → Y) (x : A × B × C × D × E × F × G × H × I × J × K × L × M × N) : Y := zWv (f x.1) x.2
abbrev zJ3 (f : A → B → C → D → E → F → G → H → I → J → K → L → M → N → Y) (x : A × B × C × D × E × F × G × H × I × J × K × L × M × N × O) : Y := qOg (f x.1) x.2
abbrev yTl (f : A → B → C → D → E → F → G → H → I → J → K → L → M → N → O → Y) (x : A × B × C × D × E × F × G × H × I × J × K × L × M × N × O × P) : Y := zJ3 (f x.1) x.2
abbrev qWy (f : A → B → C → D → E → F → G → H → I → J → K → L → M → N → O → P → Y) (x : A × B × C × D × E × F × G × H × I × J × K × L × M × N × O × P × Q) : Y := yTl (f x.1) x.2
abbrev vIz (f : A → B → C → D → E → F → G → H → I → J → K → L → M → N → O → P → Q → Y) (x : A × B × C × D × E × F × G × H × I × J × K × L × M × N × O × P × Q × R) : Y := qWy (f x.1) x.2
abbrev vJw (f : A → B → C → D → E → F → G → H → I → J → K → L → M → N → O → P → Q → R → Y) (x : A × B × C × D × E × F × G × H × I × J × K × L × M × N × O × P × Q × R × S) : Y := vIz (f x.1) x.2
abbrev yVc (f : A → B → C → D → E → F → G → H → I → J → K → L → M → N → O → P → Q → R → S → Y) (x : A × B × C × D × E × F × G × H × I × J × K × L × M × N × O × P × Q × R × S × U) : Y := vJw (f x.1) x.2
abbrev qC8 (x : A × B × C × D × E × F × G × H × I × J × K × L × M × N × O × P × Q) (t : T) := zE3 x.2.2.2.2.2.2.2.2.2.2.2.2.2 t
abbrev qGc (x : A × B × C × D × E × F) (t : T) := zE3 x.2.2 t
abbrev vCf (x : A × B × C × D × E × F × G) (t : T) := zE3 x.2.2.2 t
abbrev yAe (x : A × B × C × D × E × F × G × H) (t : T) := zE3 x.2.2.2.2 t
abbrev vBe (x : A × B × C × D × E × F × G × H × I) (t : T) := zE3 x.2.2.2.2.2 t
abbrev vEu (x : A × B × C × D × E × F × G × H × I × J × K × L) (t : T) := zE3 x.2.2.2.2.2.2.2.2 t
abbrev yC7 (x : A × B × C × D × E × F × G × H × I × J × K × L × M × N × O × P × Q) (t : T) := zBg x.2.2.2.2.2.2.2.2.2.2.2.2 t
abbrev qKw (x : A × B × C × D × E × F × G × H × I × J × K × L × M × N × O × P × Q) (t : T) := zGd x.2.2.2.2.2.2.2.2.2.2.2 t
abbrev yPv (x : A × B × C × D × E × F × G × H) (t : T) := zGd x.2.2 t
abbrev qIf (x : A × B × C × D × E × F × G × H × I × J × K × L × M × N × O × P × Q) (t : T) := zB3 x.2.2.2.2.2.2.2.2.2.2 t
abbrev yLn (x : A × B × C × D × E × F × G × H) (t : T) := zB3 x.2 t
abbrev vDt (x : A × B × C × D × E × F × G × H × I × J × K) (t : T) := zB3 x.2.2.2.2 t
abbrev vAe (x : A × B × C × D × E × F × G × H × I × J × K × L) (t : T) := zBq x.2 t
abbrev qG6 (x : A × B × C × D × E × F × G × H × I × J × K × L × M × N × O × P × Q × R × S) (t : T) := zAb x.2 t
abbrev yDw (x : A × B × C × D × E × F × G × H × I × J × K × L × M × N × O × P × Q × R × S × U × V × W × X × Z × a) := zHm x.2.2.2.2.2.2.2.2.2.2.2.2.2.2.2.2.2.2
abbrev zMq (x : A × B × C × D × E × F × G × H × I × J × K × L × M × N × O × P × Q × R × S × U × V × W × X × Z × a × b) := zAz x.2.2.2.2.2.2.2.2.2.2.2.2.2.2.2.2.2.2
abbrev zQp (x : A × B × C × D × E × F × G × H × I) := zAz x.2
abbrev yB8 (x : A × B × C × D × E × F × G × H × I × J × K × L × M × N) := zAz x.2.2.2.2.2.2
abbrev yW1 (x : A × B × C × D × E × F × G × H × I × J × K × L × M × N × O) := zAz x.2.2.2.2.2.2.2
abbrev qPp (x : A × B × C × D × E × F × G × H × I × J × K × L × M × N × O × P × Q × R × S × U × V × W × X × Z × a) := zPq x.2.2.2.2.2.2.2.2.2.2.2.2.2.2.2.2
abbrev zF3 (x : A × B × C × D × E × F × G × H × I × J × K × L × M × N × O × P × Q) := vK x.2.2.2.2.2
abbrev yUu (x : A × B × C × D × E × F × G × H × I × J × K × L × M × N × O × P × Q × R × S) := vK x.2.2.2.2.2.2.2
abbrev zBu (x : A × B × C × D × E × F × G × H × I × J × K × L × M × N × O × P × Q × R × S × U) := zAq x.2
abbrev zYz (x : A × B × C × D × E × F × G × H × I × J × K × L × M × N × O) (t : T) := wD x.2.2.2.2.2.2.2.2.2.2 t
abbrev zCs (x : A × B × C × D × E × F) (t : T) := wD x.2 t
abbrev zTl (x : A × B × C × D × E × F × G) (t : T) := wD x.2.2 t
abbrev yQb (x : A × B × C × D × E × F × G × H) (t : T) := wD x.2.2.2 t
abbrev ySm (x : A × B × C × D × E × F × G × H × I × J) (t : T) := wD x.2.2.2.2.2 t
abbrev yXn (x : A × B × C × D × E × F × G × H × I) (t : T) := zQo x.2 t
abbrev vG2 (x : A × B × C × D × E × F × G × H × I × J × K × L × M × N × O × P × Q) (t : T) := zFu x.2.2.2.2.2 t
abbrev yVj (x : A × B × C × D × E × F × G × H × I × J × K × L × M × N × O × P × Q × R × S × U × V) (t : T) := qGk x.2.2.2.2.2.2 t
abbrev zWy (x : A × B × C × D × E × F × G × H × I × J × K × L × M × N × O × P × Q × R × S) (t : T) := qSh x.2 t
end
def qW9 (k : Nat) (a0 : Int) : Option yV :=
 bif decide ((qV .i64 a0 3) = 1) then some (4, [(100, 1000), (7, 0)], 12, 20, 100)
 else bif decide ((qV .i64 a0 3) = 2) then some (3, [], 20, 20, 4)
 else bif decide ((qV .i64 a0 3) = 3) then some (3, [(100, 1000), (7, 0)], 0, 6, 1)
 else some (3, [(100, 1000), (7, 0)], 12, 20, 4)
def zO0 (k : Nat) (a0 : Int) : Option Bool :=
 bif decide (a0 ≥ 0) then some (decide (a0 ≤ 6))
 else some false
abbrev qEz : Type := Int → Int → Int → List Int → Option (List Int)
def zOh (k : Nat) (rec : qEz) (s1 s13 s14 : Int) (r0 : List Int) : Option (List Int) :=
 bif decide (s14 < s13) then (bif zE s14 r0.length then (rec s1 s13 (zA (s14 + 1)) (r0.set s14.toNat s1))
  else none)
 else some r0
def zQu (k : Nat) : Nat → qEz
 | 0, _, _, _, _ => none
 | n + 1, s1, s13, s14, r0 => zOh k (zQu k n) s1 s13 s14 r0
def zHp (k : Nat) (a0 a1 : Int) : Option (List Int) :=
 (zO0 k a0).bind fun x0 =>
 bif !x0 then some []
 else bif zL2 a0 a0 8 then ((zQu k k a1 ((List.replicate a0.toNat (0 : Int)).length : Int) 0 (List.replicate a0.toNat (0 : Int))).bind fun z =>
  some z)
 else none
abbrev qNp : Type := Int → Int → Int → Int → List (List Int) → Option (List (List Int))
def zNp (k : Nat) (rec : qNp) (s0 s1 s13 s14 : Int) (m0 : List (List Int)) : Option (List (List Int)) :=
 bif decide (s14 < s13) then ((zHp k s0 s1).bind fun x1 =>
  bif zE s14 m0.length then (rec s0 s1 s13 (zA (s14 + 1)) (m0.set s14.toNat x1))
  else none)
 else some m0
def zQm (k : Nat) : Nat → qNp
 | 0, _, _, _, _, _ => none
 | n + 1, s0, s1, s13, s14, m0 => zNp k (zQm k n) s0 s1 s13 s14 m0
def zKy (k : Nat) (a0 a1 : Int) : Option (List (List Int)) :=
 (zO0 k a0).bind fun x0 =>
 bif !x0 then some []
 else bif zL2 a0 a0 24 then ((zQm k k a0 a1 ((List.replicate a0.toNat ([] : List Int)).length : Int) 0 (List.replicate a0.toNat ([] : List Int))).bind fun z =>
  some z)
 else none
abbrev zX1 : Type := Int × yV × K2q × K2q × (List zO) × (List (List Int)) × (List Int) × (List (List Int)) × (List Int)
abbrev qC7 : Type := Int → List vQ → Int → Int → yV → K2q → K2q → List zO → List (List Int) → List Int → List (List Int) → List Int → Option zX1
def qQr (k : Nat) (rec : qC7) (s3 : Int) (s20 : List vQ) (s21 s22 : Int) (b0 : yV) (b1 b2 : K2q) (r3 : List zO) (m4 : List (List Int)) (r5 : List Int) (m6 : List (List Int)) (r7 : List Int) : Option zX1 :=
 bif decide (s22 < s21) then (bif zE s22 s20.length then (bif qR (r7.length + 1) 8 then (rec s3 s20 s21 (zA (s22 + 1)) b0 b1 b2 r3 m4 r5 m6 (r7 ++ [(s20.getD s22.toNat (0, 0)).1]))
   else none)
  else none)
 else some (s3, b0, b1, b2, r3, m4, r5, m6, r7)
def qMj (k : Nat) : Nat → qC7 := vX (fun _ _ _ _ _ _ _ _ _ _ _ _ => none) (qQr k)
abbrev zZo : Type := K2q × K2q × (List zO) × (List (List Int)) × (List Int) × (List (List Int)) × (List Int) × (List (List Int))
abbrev qE3 : Type := Int → Int → yV → K2q → K2q → List zO → List (List Int) → List Int → List (List Int) → List Int → List (List Int) → Option zZo
def qUl (k : Nat) (rec : qE3) (s34 s35 : Int) (b0 : yV) (b1 b2 : K2q) (r3 : List zO) (m4 : List (List Int)) (r5 : List Int) (m6 : List (List Int)) (r7 : List Int) (m8 : List (List Int)) : Option zZo :=
 bif decide (s35 < s34) then (bif zL2 (b0.2.1.length : Int) (b0.2.1.length : Int) 8 then (bif qR (m8.length + 1) 24 then (rec s34 (zA (s35 + 1)) b0 b1 b2 r3 m4 r5 m6 r7 (m8 ++ [(List.replicate b0.2.1.length (0 : Int))]))
   else none)
  else none)
 else some (b1, b2, r3, m4, r5, m6, r7, m8)
def qN7 (k : Nat) : Nat → qE3 := vX (fun _ _ _ _ _ _ _ _ _ _ _ => none) (qUl k)
def zYm (k : Nat) (a0 : yV) : Option vH :=
 bif zL2 a0.1 a0.1 24 then ((zKy k a0.1 (-1)).bind fun x0 =>
  (zHp k a0.1 (-1)).bind fun x1 =>
  (zKy k a0.1 0).bind fun x2 =>
  (qMj k k a0.1 a0.2.1 (a0.2.1.length : Int) 0 a0 (0, 0, false) (0, 0, false) (List.replicate a0.1.toNat ((0, 0, 0) : Int × Int × Int)) x0 x1 x2 []).bind fun z =>
  (qN7 k k z.1 0 z.2.1 z.2.2.1 z.2.2.2.1 z.2.2.2.2.1 z.2.2.2.2.2.1 z.2.2.2.2.2.2.1 z.2.2.2.2.2.2.2.1 z.2.2.2.2.2.2.2.2 []).bind fun z1 =>
  some (z1.2.1.1, (yPv z1 ([], [], z1.2.1.2))))
 else none
def qAm (k : Nat) (a0 : Int) : Option Bool :=
 bif decide (a0 ≥ 10) then some (decide (a0 ≤ 14))
 else some false
def zPa (k : Nat) (a0 : Int) : Option Bool :=
 bif decide (a0 ≥ 1) then some (decide (a0 ≤ 14))
 else some false
def zUp (k : Nat) (a0 : Int) : Option Int :=
 bif decide (a0 = 9) then some 0
 else bif decide (a0 = 13) then some 0
 else bif decide (a0 = 14) then some 0
 else bif decide (a0 = 15) then some 0
 else bif decide (a0 = 2) then some 1
 else bif decide (a0 = 6) then some 1
 else bif decide (a0 = 7) then some 1
 else bif decide (a0 = 16) then some 1
 else bif decide (a0 = 19) then some 1
 else bif decide (a0 = 20) then some 1
 else bif decide (a0 = 21) then some 1
 else bif decide (a0 = 22) then some 1
 else bif decide (a0 = 23) then some 1
 else bif decide (a0 = 3) then some 2
 else bif decide (a0 = 4) then some 2
 else bif decide (a0 = 5) then some 2
 else bif decide (a0 = 8) then some 2
 else bif decide (a0 = 10) then some 2
 else bif decide (a0 = 11) then some 2
 else bif decide (a0 = 12) then some 2
 else bif decide (a0 = 18) then some 4
 else bif decide (a0 = 17) then some 5
 else bif decide (a0 = 1) then some 6
 else some (-1)
abbrev qCt : Type := List Int → Int → Int → Option (Unit ⊕ Bool)
def zXs (k : Nat) (rec : qCt) (s13 : List Int) (s14 s15 : Int) : Option (Unit ⊕ Bool) :=
 bif decide (s15 < s14) then (bif zE s15 s13.length then (bif !(decide ((s13.getD s15.toNat 0) = 0)) then some (.inr false)
   else rec s13 s14 (zA (s15 + 1)))
  else none)
 else some (.inl ())
def zSn (k : Nat) : Nat → qCt := vX (fun _ _ _ => none) (zXs k)
def zP9 (k : Nat) (a0 : zD) : Option Bool :=
 (zUp k a0.1).bind fun x0 =>
 bif decide (x0 < 0) then some false
 else bif (decide (0 ≤ x0)) && (decide (x0 ≤ 6)) then ((zSn k k (yB [a0.2.1, a0.2.2.1, a0.2.2.2.1, a0.2.2.2.2.1, a0.2.2.2.2.2.1, a0.2.2.2.2.2.2] x0.toNat (6 - x0.toNat)) ((yB [a0.2.1, a0.2.2.1, a0.2.2.2.1, a0.2.2.2.2.1, a0.2.2.2.2.2.1, a0.2.2.2.2.2.2] x0.toNat (6 - x0.toNat)).length : Int) 0).bind fun z =>
  match z with
  | .inl z1 => some true
  | .inr z2 => some z2)
 else none
def zR3 (k : Nat) (a0 : yV) (a1 : vH) (a2 : yP) : Option Int :=
 (qAm k a2.2.1).bind fun x0 =>
 bif decide (a2.1 ≥ 0) then ((zPa k a2.2.1).bind fun x1 =>
  bif !x1 then some 5
  else (zP9 k a2.2).bind fun x2 =>
  bif !x2 then some 5
  else bif x0 then (bif !(decide (a2.1 = (-1))) then some 5
   else bif !x0 then (bif !(decide (a2.1 < a0.1)) then some 5
    else bif a1.2.2.2.2.2.2.2.2.2.2 then (bif !(decide (a2.2.1 = 9)) then some 7
     else some 0)
    else some 0)
   else bif a1.2.2.2.2.2.2.2.2.2.2 then (bif !(decide (a2.2.1 = 9)) then some 7
    else some 0)
   else some 0)
  else bif !x0 then (bif !(decide (a2.1 < a0.1)) then some 5
   else bif a1.2.2.2.2.2.2.2.2.2.2 then (bif !(decide (a2.2.1 = 9)) then some 7
    else some 0)
   else some 0)
  else bif a1.2.2.2.2.2.2.2.2.2.2 then (bif !(decide (a2.2.1 = 9)) then some 7
   else some 0)
  else some 0)
 else (zPa k a2.2.1).bind fun x3 =>
 bif !x3 then some 5
 else (zP9 k a2.2).bind fun x4 =>
 bif !x4 then some 5
 else bif x0 then (bif !(decide (a2.1 = (-1))) then some 5
  else bif !x0 then some 5
  else bif a1.2.2.2.2.2.2.2.2.2.2 then (bif !(decide (a2.2.1 = 9)) then some 7
   else some 0)
  else some 0)
 else bif !x0 then some 5
 else bif a1.2.2.2.2.2.2.2.2.2.2 then (bif !(decide (a2.2.1 = 9)) then some 7
  else some 0)
 else some 0
def qB7 (k : Nat) (vJ6 vJ7 vJ8 vJ9 vKa vKb vKc a1 : Int) : Option Bool :=
 some (decide (vJ7 = a1))
abbrev zTn : Type := List zD
abbrev qEx : Type := List zD → Int → Int → Int → List zD → Option zTn
def zKr (k : Nat) (rec : qEx) (s8 : List zD) (s9 s10 b0_0 : Int) (r1 : List zD) : Option zTn :=
 bif decide (s10 < s9) then (bif zE s10 s8.length then ((qB7 k (s8.getD s10.toNat (0, 0, 0, 0, 0, 0, 0)).1 (s8.getD s10.toNat (0, 0, 0, 0, 0, 0, 0)).2.1 (s8.getD s10.toNat (0, 0, 0, 0, 0, 0, 0)).2.2.1 (s8.getD s10.toNat (0, 0, 0, 0, 0, 0, 0)).2.2.2.1 (s8.getD s10.toNat (0, 0, 0, 0, 0, 0, 0)).2.2.2.2.1 (s8.getD s10.toNat (0, 0, 0, 0, 0, 0, 0)).2.2.2.2.2.1 (s8.getD s10.toNat (0, 0, 0, 0, 0, 0, 0)).2.2.2.2.2.2 b0_0).bind fun x0 =>
   bif x0 then (bif qR (r1.length + 1) 56 then (let y0 : List zD := (r1 ++ [(s8.getD s10.toNat (0, 0, 0, 0, 0, 0, 0))])
     rec s8 s9 (zA (s10 + 1)) b0_0 y0)
    else none)
   else rec s8 s9 (zA (s10 + 1)) b0_0 r1)
  else none)
 else some r1
def zO9 (k : Nat) : Nat → qEx
 | 0, _, _, _, _, _ => none
 | n + 1, s8, s9, s10, b0_0, r1 => zKr k (zO9 k n) s8 s9 s10 b0_0 r1
def qPk (k : Nat) (a0 : List zD) (a1_0 : Int) : Option (List zD) :=
 (zO9 k k a0 (a0.length : Int) 0 a1_0 []).bind fun z =>
 some z
def zP7 (k : Nat) (a0 : List zD) (a1 : Int) : Option (List zD) :=
 (qPk k a0 a1).bind fun x0 =>
 some x0
def yEm (k : Nat) (a0 : (Int × Int × Int × Int × Int × Int × Bool × Int)) (a1 : Int) (a2 : List Int) : Option wJ :=
 some (a0.1, [], (zCs a0 ([], [], [], [], [], [], [], [], a0.2.2.2.2.2.1, a0.2.2.2.2.2.2.1, a0.2.2.2.2.2.2.2, [(a0.2.2.2.2.2.2.2, a1, (bif (Nat.blt 0 a2.length) then (a2.getD 0 0) else 0), (bif (Nat.blt 1 a2.length) then (a2.getD 1 0) else 0), (bif (Nat.blt 2 a2.length) then (a2.getD 2 0) else 0), (bif (Nat.blt 3 a2.length) then (a2.getD 3 0) else 0), (bif (Nat.blt 4 a2.length) then (a2.getD 4 0) else 0), (bif (Nat.blt 5 a2.length) then (a2.getD 5 0) else 0))])))
def zXp (k : Nat) (a0 : vH) (a1 : Int) : Option (List yP) :=
 bif zE a1 a0.2.1.length then ((zP7 k a0.2.2.2.2.2.2.2.1 a1).bind fun x0 =>
  (yEm k (0, 0, 0, 0, 0, 0, false, a1) 17 [(a0.2.1.getD a1.toNat (0, 0, 0)).1, (a0.2.1.getD a1.toNat (0, 0, 0)).2.1, (a0.2.1.getD a1.toNat (0, 0, 0)).2.2, (x0.length : Int), a0.1]).bind fun x1 =>
  some x1.2.2.2.2.2.2.2.2.2.2.2.2.2.2.2.2.2)
 else none
def zZw (k : Nat) (a0 : zA8) (a1 : Int) (a2 : List Int) : Option wJ :=
 some (yT a0 [(a0.2.2.2.2.2.2.2.2.2.2.2.2.2.2.2.2, a1, (bif (Nat.blt 0 a2.length) then (a2.getD 0 0) else 0), (bif (Nat.blt 1 a2.length) then (a2.getD 1 0) else 0), (bif (Nat.blt 2 a2.length) then (a2.getD 2 0) else 0), (bif (Nat.blt 3 a2.length) then (a2.getD 3 0) else 0), (bif (Nat.blt 4 a2.length) then (a2.getD 4 0) else 0), (bif (Nat.blt 5 a2.length) then (a2.getD 5 0) else 0))])
def yQ (k : Nat) (a0 a1 a2 : Int) : Option Bool :=
 bif decide (a0 ≥ a1) then some (decide (a0 ≤ a2))
 else some false
def zO6 (k : Nat) (a0 : yV) (a1 : Int) : Option Bool :=
 bif decide (a1 ≥ 0) then some (decide (a1 < a0.1))
 else some false
def zYa (k : Nat) (a0 : yV) (a1 : Int) (a2 : zD) : Option Bool :=
 (zO6 k a0 a2.2.1).bind fun x0 =>
 bif x0 then ((zO6 k a0 a2.2.2.1).bind fun x1 =>
  bif x1 then (bif decide (a2.1 ≥ 1) then (bif decide (a2.2.2.2.1 ≥ 1) then (bif decide (a2.2.2.2.1 ≤ 1099511627776) then (bif decide (a2.2.2.2.2.1 ≥ 1) then (bif !(decide (a2.2.1 = a2.2.2.1)) then (bif decide (a2.2.2.2.2.1 ≤ 3) then (bif decide (a2.2.2.2.2.2.1 ≥ 0) then (bif decide (a2.2.2.2.2.2.1 ≤ a2.2.2.2.2.2.2) then (bif decide (a2.2.2.2.2.2.2 ≥ a1) then some (decide (a2.2.2.2.2.2.2 ≤ 1048576))
           else some false)
          else some false)
         else some false)
        else some false)
       else some false)
      else bif !(decide (a2.2.1 = a2.2.2.1)) then some false
      else some false)
     else bif !(decide (a2.2.1 = a2.2.2.1)) then some false
     else some false)
    else bif !(decide (a2.2.1 = a2.2.2.1)) then some false
    else some false)
   else bif !(decide (a2.2.1 = a2.2.2.1)) then some false
   else some false)
  else bif decide (a2.1 ≥ 1) then (bif decide (a2.2.2.2.1 ≥ 1) then (bif decide (a2.2.2.2.1 ≤ 1099511627776) then (bif decide (a2.2.2.2.2.1 ≥ 1) then some false
     else some false)
    else some false)
   else some false)
  else some false)
 else bif decide (a2.1 ≥ 1) then (bif decide (a2.2.2.2.1 ≥ 1) then (bif decide (a2.2.2.2.1 ≤ 1099511627776) then (bif decide (a2.2.2.2.2.1 ≥ 1) then some false
    else some false)
   else some false)
  else some false)
 else some false
def zHh (k : Nat) (a0 : yV) (a1 a2 : Int) : Option Int :=
 bif decide (a1 ≥ a0.2.2.2.1) then some 7
 else bif decide (a2 = 3) then (bif decide (a1 ≥ a0.2.2.1) then some 7
  else some 0)
 else some 0
def zJo (k : Nat) (a0 : yV) (a1 : Int) (a2 : zD) : Option Int :=
 (zYa k a0 a1 a2).bind fun x0 =>
 bif !x0 then some 1
 else (zHh k a0 a1 a2.2.2.2.2.1).bind fun x1 =>
 some x1
def zXe (k : Nat) (a0 : Int) : Option Bool :=
 some (!(decide (a0 = a0)))
def qAe (k : Nat) (a0 a1 : Int) : Option Bool :=
 (zXe k a0).bind fun x0 =>
 bif x0 then ((zXe k a1).bind fun x1 =>
  bif !x1 then some true
  else some (decide (a0 < a1)))
 else some (decide (a0 < a1))
def zZl (k : Nat) (a0 : Int) : Option Bool :=
 some (!(decide (a0 = a0)))
abbrev zUq : Type := (List Int) × Int × Int × Int
abbrev qOf : Type := List Int → Int → Int → Int → Int → Option zUq
def zT6 (k : Nat) (rec : qOf) (s0 : List Int) (s1 s6 s7 s8 : Int) : Option zUq :=
 bif decide (s7 < s8) then (bif zE (zA ((shr .u64 (IntKind.wrap .u64 ((zA (s7 + s8)))) 1))) s0.length then ((qAe k (s0.getD (zA ((shr .u64 (IntKind.wrap .u64 ((zA (s7 + s8)))) 1))).toNat 0) s1).bind fun x0 =>
   bif x0 then (rec s0 s1 s6 (zA ((zA ((shr .u64 (IntKind.wrap .u64 ((zA (s7 + s8)))) 1))) + 1)) s8)
   else rec s0 s1 s6 s7 (zA ((shr .u64 (IntKind.wrap .u64 ((zA (s7 + s8)))) 1))))
  else none)
 else some (s0, s1, s6, s7)
def zQz (k : Nat) : Nat → qOf := vX (fun _ _ _ _ _ => none) (zT6 k)
def zKp (k : Nat) (a0 : List Int) (a1 : Int) : Option wF :=
 (zQz k k a0 a1 (a0.length : Int) 0 (a0.length : Int)).bind fun z =>
 bif decide (z.2.2.2 < z.2.2.1) then (bif zE z.2.2.2 z.1.length then (bif decide ((z.1.getD z.2.2.2.toNat 0) = z.2.1) then some (z.2.2.2, true)
   else bif zE z.2.2.2 z.1.length then ((zZl k (z.1.getD z.2.2.2.toNat 0)).bind fun x1 =>
    bif x1 then ((zZl k z.2.1).bind fun x2 =>
     some (z.2.2.2, x2))
    else some (z.2.2.2, false))
   else none)
  else none)
 else some (z.2.2.2, false)
def zDy (k : Nat) (a0 : List Int) : Option (List Int) :=
 bif qR (0 + a0.length) 8 then some a0
 else none
abbrev qSd (k : Nat) (a0 : List Int) (a1 : Int) (a2 : List Int) : Option (List Int) := ins 8 a0 a1 a2
def zKv (k : Nat) (a0 : List Int) (a1 : Int) : Option ((List Int) × Int) :=
 (zKp k a0 a1).bind fun x0 =>
 bif x0.2 then some (a0, 6)
 else bif decide ((a0.length : Int) ≥ 200) then some (a0, 3)
 else (zDy k a0).bind fun x1 =>
 (qSd k x1 x0.1 [a1]).bind fun x2 =>
 some (x2, 0)
def qIm (k : Nat) (vJ6 vJ7 vJ8 vJ9 vKa vKb vKc a1 : Int) : Option Bool :=
 some (decide (vJ6 = a1))
abbrev qLo : Type := List zD → Int → Int → Int → Option (Unit ⊕ Int)
def zLp (k : Nat) (rec : qLo) (s0 : List zD) (s7 s8 b0_0 : Int) : Option (Unit ⊕ Int) :=
 bif decide (s8 < s7) then (bif zE s8 s0.length then ((qIm k (s0.getD s8.toNat (0, 0, 0, 0, 0, 0, 0)).1 (s0.getD s8.toNat (0, 0, 0, 0, 0, 0, 0)).2.1 (s0.getD s8.toNat (0, 0, 0, 0, 0, 0, 0)).2.2.1 (s0.getD s8.toNat (0, 0, 0, 0, 0, 0, 0)).2.2.2.1 (s0.getD s8.toNat (0, 0, 0, 0, 0, 0, 0)).2.2.2.2.1 (s0.getD s8.toNat (0, 0, 0, 0, 0, 0, 0)).2.2.2.2.2.1 (s0.getD s8.toNat (0, 0, 0, 0, 0, 0, 0)).2.2.2.2.2.2 b0_0).bind fun x0 =>
   bif x0 then some (.inr s8)
   else rec s0 s7 (zA (s8 + 1)) b0_0)
  else none)
 else some (.inl ())
def zNi (k : Nat) : Nat → qLo
 | 0, _, _, _, _ => none
 | n + 1, s0, s7, s8, b0_0 => zLp k (zNi k n) s0 s7 s8 b0_0
def qNd (k : Nat) (a0 : List zD) (a1_0 : Int) : Option Int :=
 (zNi k k a0 (a0.length : Int) 0 a1_0).bind fun z =>
 match z with
 | .inl z1 => some (-1)
 | .inr z2 => some z2
def zCw (k : Nat) (a0 : List zD) (a1 : Int) : Option Int :=
 (qNd k a0 a1).bind fun x0 =>
 some x0
def zTz (k : Nat) (a0 : Int) : Option Bool :=
 some (!(decide (a0 = a0)))
def zQ4 (k : Nat) (a0 a1 : Int) : Option Int :=
 (zTz k a0).bind fun x0 =>
 (zTz k a1).bind fun x1 =>
 bif x0 then (bif x1 then some 0
  else some (-1))
 else bif x1 then some 1
 else bif decide (a0 < a1) then some (-1)
 else bif decide (a0 > a1) then some 1
 else some 0
abbrev qC1 : Type := Int → List Int → Int → Int → Option (Int ⊕ Int)
def yGn (k : Nat) (rec : qC1) (s3 : Int) (s6 : List Int) (s7 s8 : Int) : Option (Int ⊕ Int) :=
 bif decide (s8 < s7) then (bif zE s8 s6.length then (bif !(decide ((s6.getD s8.toNat 0) = s3)) then some (.inr (s6.getD s8.toNat 0))
   else rec s3 s6 s7 (zA (s8 + 1)))
  else none)
 else some (.inl s3)
def zKh (k : Nat) : Nat → qC1
 | 0, _, _, _, _ => none
 | n + 1, s3, s6, s7, s8 => yGn k (zKh k n) s3 s6 s7 s8
def zZ6 (k : Nat) (a0 : List Int) : Option Int :=
 (zKh k k 0 a0 (a0.length : Int) 0).bind fun z =>
 match z with
 | .inl z1 => some z1
 | .inr z2 => some z2
def zMf (k : Nat) (vJ6 vJ7 vJ8 vJ9 vKa vKb vKc vKd vKe vKf vKg vKh vKi vKj : Int) : Option Int :=
 (zQ4 k vJ7 vKe).bind fun x0 =>
 (zQ4 k vKa vKh).bind fun x1 =>
 (zZ6 k [x0, x1]).bind fun x2 =>
 some x2
def zF8 (k : Nat) (a0 : List zD) : Option (List zD) :=
 bif qR (0 + a0.length) 56 then some a0
 else none
abbrev zZ7 (k : Nat) (a0 : List zD) (a1 : Int) (a2 : List zD) : Option (List zD) := ins 56 a0 a1 a2
abbrev zY7 : Type := (List zD) × Int × zD
abbrev qOd : Type := List zD → Int → zD → Option zY7
def zOc (k : Nat) (rec : qOd) (s0 : List zD) (s6 : Int) (b0 : zD) : Option zY7 :=
 bif decide (s6 < (s0.length : Int)) then (bif zE s6 s0.length then ((zMf k (s0.getD s6.toNat (0, 0, 0, 0, 0, 0, 0)).1 (s0.getD s6.toNat (0, 0, 0, 0, 0, 0, 0)).2.1 (s0.getD s6.toNat (0, 0, 0, 0, 0, 0, 0)).2.2.1 (s0.getD s6.toNat (0, 0, 0, 0, 0, 0, 0)).2.2.2.1 (s0.getD s6.toNat (0, 0, 0, 0, 0, 0, 0)).2.2.2.2.1 (s0.getD s6.toNat (0, 0, 0, 0, 0, 0, 0)).2.2.2.2.2.1 (s0.getD s6.toNat (0, 0, 0, 0, 0, 0, 0)).2.2.2.2.2.2 b0.1 b0.2.1 b0.2.2.1 b0.2.2.2.1 b0.2.2.2.2.1 b0.2.2.2.2.2.1 b0.2.2.2.2.2.2).bind fun x1 =>
   bif decide (x1 ≤ 0) then (rec s0 (zA (s6 + 1)) b0)
   else some (s0, s6, b0))
  else none)
 else some (s0, s6, b0)
def zM5 (k : Nat) : Nat → qOd := vX (fun _ _ _ => none) (zOc k)
def zF2 (k : Nat) (a0 : List zD) (a1 : zD) : Option ((List zD) × Int) :=
 (zCw k a0 a1.1).bind fun x0 =>
 bif decide (x0 ≥ 0) then some (a0, 6)
 else bif decide ((a0.length : Int) ≥ 40) then some (a0, 3)
 else (zM5 k k a0 0 a1).bind fun z =>
 (zF8 k z.1).bind fun x2 =>
 (zZ7 k x2 z.2.1 [z.2.2]).bind fun x3 =>
 some (x3, 0)
def zT1 (k : Nat) (a0 : wJ) (a1 : (Int × Int × Int × Int × Int × Int)) : Option (Int × wJ) :=
 (yQ k a1.2.1 0 (zA (a0.1 - 1))).bind fun x0 =>
 bif !x0 then some (1, a0)
 else (yQ k a1.2.2.2.1 1 3).bind fun x1 =>
 bif !x1 then some (1, a0)
 else (zJo k (vA a0) a0.2.2.2.2.2.1 (a1.1, a0.2.2.2.2.2.2.2.2.2.2.2.2.2.2.2.2.1, a1.2)).bind fun x2 =>
 bif !(decide (x2 = 0)) then some (x2, a0)
 else (zKv k a0.2.2.2.2.2.2.2.2.2.2.2.2.2.1 a1.1).bind fun x3 =>
 bif !(decide (x3.2 = 0)) then some (x3.2, a0)
 else (zF2 k a0.2.2.2.2.2.2.2.2.2.2.2.2.1 (a1.1, a0.2.2.2.2.2.2.2.2.2.2.2.2.2.2.2.2.1, a1.2)).bind fun x4 =>
 bif !(decide (x4.2 = 0)) then some (x4.2, a0)
 else some (0, (zDd a0 (x4.1, x3.1, a0.2.2.2.2.2.2.2.2.2.2.2.2.2.2)))
def qP5 (k : Nat) (a0 : wJ) (a1 : Int) : Option (zD × Int) :=
 (zCw k a0.2.2.2.2.2.2.2.2.2.2.2.2.1 a1).bind fun x0 =>
 bif decide (x0 < 0) then some ((0, 0, 0, 0, 0, 0, 0), 4)
 else bif zE x0 a0.2.2.2.2.2.2.2.2.2.2.2.2.1.length then (bif !(decide ((a0.2.2.2.2.2.2.2.2.2.2.2.2.1.getD x0.toNat (0, 0, 0, 0, 0, 0, 0)).2.1 = a0.2.2.2.2.2.2.2.2.2.2.2.2.2.2.2.2.1)) then some ((0, 0, 0, 0, 0, 0, 0), 4)
  else bif zE x0 a0.2.2.2.2.2.2.2.2.2.2.2.2.1.length then some ((a0.2.2.2.2.2.2.2.2.2.2.2.2.1.getD x0.toNat (0, 0, 0, 0, 0, 0, 0)), 0)
  else none)
 else none
def zQj (k : Nat) (a0 : List zD) (a1 a2 : Int) : Option (List zD) :=
 bif ((((decide (0 ≤ a1)) && (decide (a1 ≤ a2))) && (decide (a2 ≤ (a0.length : Int)))) && (decide (((a2.toNat : Nat) : Int) ≤ (a0.length : Int)))) && (decide ((a0.length : Int) ≤ (a0.length : Int))) then (bif decide (a1 = a2) then some a0
  else bif (decide (0 ≤ a1)) && (decide (a1 ≤ (a0.length : Int))) then (bif (decide (0 ≤ a2)) && (decide (a2 ≤ (a0.length : Int))) then (bif Nat.ble (a1.toNat - 0) (0 + a2.toNat) then (let y0 : List zD := (((List.take (a1.toNat - 0) a0) ++ (yB a0 (0 + a2.toNat) (a0.length - a2.toNat))) ++ (List.drop ((a1.toNat - 0) + (a0.length - a2.toNat)) a0))
     bif ((decide (0 ≤ ((yB y0 0 ((a1.toNat - 0) + (a0.length - a2.toNat))).length : Int))) && (decide (((yB y0 0 ((a1.toNat - 0) + (a0.length - a2.toNat))).length : Int) ≤ (a0.length : Int)))) && (decide ((a0.length : Int) ≤ (((y0.length - 0) : Nat) : Int))) then (let y1 : List zD := (((List.take (0 + (yB y0 0 ((a1.toNat - 0) + (a0.length - a2.toNat))).length) y0) ++ (List.replicate (a0.length - (yB y0 0 ((a1.toNat - 0) + (a0.length - a2.toNat))).length) ((0, 0, 0, 0, 0, 0, 0) : Int × Int × Int × Int × Int × Int × Int))) ++ (List.drop ((0 + (yB y0 0 ((a1.toNat - 0) + (a0.length - a2.toNat))).length) + (a0.length - (yB y0 0 ((a1.toNat - 0) + (a0.length - a2.toNat))).length)) y0))
      some (List.take ((a1.toNat - 0) + (a0.length - a2.toNat)) y1))
     else none)
    else none)
   else none)
  else none)
 else none
def zDv (k : Nat) (a0 : List zD) (a1 : Int) : Option ((List zD) × Int × Int × Int × Int × Int × Int × Int × Int) :=
 (zCw k a0 a1).bind fun x0 =>
 bif decide (x0 < 0) then some (a0, 0, 0, 0, 0, 0, 0, 0, 4)
 else (zF8 k a0).bind fun x1 =>
 (zQj k x1 x0 (zA (x0 + 1))).bind fun x2 =>
 bif zE x0 a0.length then some (x2, (zB3 (a0.getD x0.toNat (0, 0, 0, 0, 0, 0, 0)) 0))
 else none
def zF9 (k : Nat) (a0 : wJ) (a1 : Int) (a2 : List Int) : Option wJ :=
 bif qR (a0.2.2.2.2.2.2.2.2.2.2.2.2.2.2.2.2.2.length + 1) 64 then (let y0 : List yP := (a0.2.2.2.2.2.2.2.2.2.2.2.2.2.2.2.2.2 ++ [(a0.2.2.2.2.2.2.2.2.2.2.2.2.2.2.2.2.1, a1, (bif (Nat.blt 0 a2.length) then (a2.getD 0 0) else 0), (bif (Nat.blt 1 a2.length) then (a2.getD 1 0) else 0), (bif (Nat.blt 2 a2.length) then (a2.getD 2 0) else 0), (bif (Nat.blt 3 a2.length) then (a2.getD 3 0) else 0), (bif (Nat.blt 4 a2.length) then (a2.getD 4 0) else 0), (bif (Nat.blt 5 a2.length) then (a2.getD 5 0) else 0))])
  some (qSh a0 y0))
 else none
def zJ7 (k : Nat) (a0 : List zD) (a1 a2 : Int) : Option ((List zD) × Int) :=
 (zDv k a0 a1).bind fun x0 =>
 bif !(decide (x0.2.2.2.2.2.2.2.2 = 0)) then some (a0, x0.2.2.2.2.2.2.2.2)
 else (zF2 k x0.1 (zCs x0 (a2, x0.2.2.2.2.2.2.1, x0.2.2.2.2.2.2.2.1))).bind fun x1 =>
 some (x1.1, x1.2)
def qHx (k : Nat) (a0 : List zD) (a1 : Int) : Option ((List zD) × Int × Int × Int × Int × Int × Int × Int × Int) :=
 (zCw k a0 a1).bind fun x0 =>
 bif decide (x0 < 0) then none
 else (zF8 k a0).bind fun x1 =>
 (zQj k x1 x0 (zA (x0 + 1))).bind fun x2 =>
 bif zE x0 a0.length then some (x2, (zB3 (a0.getD x0.toNat (0, 0, 0, 0, 0, 0, 0)) 0))
 else none
abbrev zUv : Type := Int × (List zD) × zD
abbrev qCj : Type := Int → List zD → zD → Option zUv
def zMp (k : Nat) (rec : qCj) (s9 : Int) (r0 : List zD) (b1 : zD) : Option zUv :=
 bif decide (s9 < (r0.length : Int)) then (bif zE s9 r0.length then ((zMf k (r0.getD s9.toNat (0, 0, 0, 0, 0, 0, 0)).1 (r0.getD s9.toNat (0, 0, 0, 0, 0, 0, 0)).2.1 (r0.getD s9.toNat (0, 0, 0, 0, 0, 0, 0)).2.2.1 (r0.getD s9.toNat (0, 0, 0, 0, 0, 0, 0)).2.2.2.1 (r0.getD s9.toNat (0, 0, 0, 0, 0, 0, 0)).2.2.2.2.1 (r0.getD s9.toNat (0, 0, 0, 0, 0, 0, 0)).2.2.2.2.2.1 (r0.getD s9.toNat (0, 0, 0, 0, 0, 0, 0)).2.2.2.2.2.2 b1.1 b1.2.1 b1.2.2.1 b1.2.2.2.1 b1.2.2.2.2.1 b1.2.2.2.2.2.1 b1.2.2.2.2.2.2).bind fun x1 =>
   bif decide (x1 < 0) then (rec (zA (s9 + 1)) r0 b1)
   else some (s9, r0, b1))
  else none)
 else some (s9, r0, b1)
def zJq (k : Nat) : Nat → qCj := vX (fun _ _ _ => none) (zMp k)
def zKl (k : Nat) (a0 : List zD) (a1 : Int) : Option ((List zD) × Int) :=
 (qHx k a0 a1).bind fun x0 =>
 bif !(decide (x0.2.2.2.2.2.2.2.2 = 0)) then some (a0, x0.2.2.2.2.2.2.2.2)
 else (zJq k k 0 x0.1 (zQp x0)).bind fun z =>
 (zZ7 k z.2.1 z.1 [z.2.2]).bind fun x2 =>
 some (x2, 0)
def zOf (k : Nat) (a0 : List zD) (a1 : Int) : Option ((List zD) × Int) :=
 (zDv k a0 a1).bind fun x0 =>
 bif !(decide (x0.2.2.2.2.2.2.2.2 = 0)) then some (a0, x0.2.2.2.2.2.2.2.2)
 else (zF2 k x0.1 (zQp x0)).bind fun x1 =>
 some (x1.1, x1.2)
def zI4 (k : Nat) (a0 : wJ) (a1 : zD) : Option (Int × wJ) :=
 (qP5 k a0 a1.2.1).bind fun x0 =>
 bif !(decide (x0.2 = 0)) then some (x0.2, a0)
 else bif decide (a1.1 = 2) then ((zDv k a0.2.2.2.2.2.2.2.2.2.2.2.2.1 a1.2.1).bind fun x1 =>
  (zF9 k (zDd a0 (x1.1, a0.2.2.2.2.2.2.2.2.2.2.2.2.2)) 20 [a1.2.1]).bind fun x2 =>
  some (x1.2.2.2.2.2.2.2.2, x2))
 else bif decide (a1.1 = 4) then ((yQ k a1.2.2.1 1 3).bind fun x3 =>
  bif !x3 then some (1, a0)
  else (zHh k (vA a0) a0.2.2.2.2.2.1 a1.2.2.1).bind fun x4 =>
  bif !(decide (x4 = 0)) then some (x4, a0)
  else (zJ7 k a0.2.2.2.2.2.2.2.2.2.2.2.2.1 a1.2.1 a1.2.2.1).bind fun x5 =>
  some (x5.2, (zDd a0 (x5.1, a0.2.2.2.2.2.2.2.2.2.2.2.2.2))))
 else bif decide (a1.2.2.1 = 0) then ((zKl k a0.2.2.2.2.2.2.2.2.2.2.2.2.1 a1.2.1).bind fun x6 =>
  some (x6.2, (zDd a0 (x6.1, a0.2.2.2.2.2.2.2.2.2.2.2.2.2))))
 else bif decide (a1.2.2.1 = 1) then ((zOf k a0.2.2.2.2.2.2.2.2.2.2.2.2.1 a1.2.1).bind fun x7 =>
  some (x7.2, (zDd a0 (x7.1, a0.2.2.2.2.2.2.2.2.2.2.2.2.2))))
 else some (1, a0)
def qLz (k : Nat) (a0 : List zO) : Option (List zO) :=
 bif qR (0 + a0.length) 24 then some a0
 else none
def qO3 (k : Nat) (a0 : List (List Int)) : Option Nat :=
 bif qR (0 + a0.length) 24 then some a0.length
 else none
abbrev qCe : Type := List (List Int) → Int → Int → List (List Int) → Nat → Option ((List (List Int)) × Nat)
def zMc (k : Nat) (rec : qCe) (s8 : List (List Int)) (s9 s10 : Int) (m0 : List (List Int)) (n0 : Nat) : Option ((List (List Int)) × Nat) :=
 bif decide (s10 < s9) then (bif zE s10 s8.length then ((zDy k (s8.getD s10.toNat [])).bind fun x1 =>
   bif zE s10 n0 then (bif Nat.beq s10.toNat m0.length then (rec s8 s9 (zA (s10 + 1)) (m0 ++ [x1]) n0)
    else none)
   else none)
  else none)
 else some (m0, n0)
def zSp (k : Nat) : Nat → qCe
 | 0, _, _, _, _, _ => none
 | n + 1, s8, s9, s10, m0, n0 => zMc k (zSp k n) s8 s9 s10 m0 n0
def zSr (k : Nat) (a0 : List (List Int)) : Option (List (List Int)) :=
 (qO3 k a0).bind fun x0 =>
 (zSp k k a0 (a0.length : Int) 0 [] x0).bind fun z =>
 qF2 z.1 z.2
def jL (k : Nat) (vKk : List zO) (vKl : List (List Int)) (vKm : List Int) (vKn : List (List Int)) : Option ((List zO) × (List (List Int)) × (List Int) × (List (List Int))) :=
 (qLz k vKk).bind fun x0 =>
 (zSr k vKl).bind fun x1 =>
 (zDy k vKm).bind fun x2 =>
 (zSr k vKn).bind fun x3 =>
 some (x0, x1, x2, x3)
def qPb (k : Nat) (a0 : wJ) (a1 : Int) : Option Bool :=
 (yQ k a1 0 (zA (a0.1 - 1))).bind fun x0 =>
 bif x0 then some (!(decide (a1 = a0.2.2.2.2.2.2.2.2.2.2.2.2.2.2.2.2.1)))
 else some false
def zHn (k : Nat) (a0 : wJ) (a1 : zD) : Option (Int × wJ) :=
 (jL k a0.2.2.2.2.2.2.1 a0.2.2.2.2.2.2.2.1 a0.2.2.2.2.2.2.2.2.1 a0.2.2.2.2.2.2.2.2.2.1).bind fun x0 =>
 bif decide (a1.1 = 5) then ((qPb k a0 a1.2.1).bind fun x1 =>
  bif !x1 then some (1, a0)
  else (yQ k a1.2.2.1 (-1) 1152921504606846976).bind fun x2 =>
  bif !x2 then some (1, a0)
  else bif zE a0.2.2.2.2.2.2.2.2.2.2.2.2.2.2.2.2.1 x0.2.1.length then (bif zE a1.2.1 (x0.2.1.getD a0.2.2.2.2.2.2.2.2.2.2.2.2.2.2.2.2.1.toNat []).length then (let y0 : List (List Int) := (x0.2.1.set a0.2.2.2.2.2.2.2.2.2.2.2.2.2.2.2.2.1.toNat ((x0.2.1.getD a0.2.2.2.2.2.2.2.2.2.2.2.2.2.2.2.2.1.toNat []).set a1.2.1.toNat a1.2.2.1))
    some (0, (zAr a0 (x0.1, y0, x0.2.2.1, x0.2.2.2, a0.2.2.2.2.2.2.2.2.2.2))))
   else none)
  else none)
 else bif decide (a1.1 = 6) then ((yQ k a1.2.1 (-1) 1152921504606846976).bind fun x3 =>
  bif !x3 then some (1, a0)
  else bif zE a0.2.2.2.2.2.2.2.2.2.2.2.2.2.2.2.2.1 x0.2.2.1.length then (let y1 : List Int := (x0.2.2.1.set a0.2.2.2.2.2.2.2.2.2.2.2.2.2.2.2.2.1.toNat a1.2.1)
   some (0, (zAr a0 (x0.1, x0.2.1, y1, x0.2.2.2, a0.2.2.2.2.2.2.2.2.2.2))))
  else none)
 else (yQ k a1.2.1 0 1152921504606846976).bind fun x4 =>
 bif !x4 then some (1, a0)
 else bif zE a0.2.2.2.2.2.2.2.2.2.2.2.2.2.2.2.2.1 x0.1.length then (let y2 : List zO := (x0.1.set a0.2.2.2.2.2.2.2.2.2.2.2.2.2.2.2.2.1.toNat ((x0.1.getD a0.2.2.2.2.2.2.2.2.2.2.2.2.2.2.2.2.1.toNat (0, 0, 0)).1, (x0.1.getD a0.2.2.2.2.2.2.2.2.2.2.2.2.2.2.2.2.1.toNat (0, 0, 0)).2.1, a1.2.1))
  some (0, (zAr a0 (y2, x0.2.1, x0.2.2.1, x0.2.2.2, a0.2.2.2.2.2.2.2.2.2.2))))
 else none
def zPh (k : Nat) (a0 : wJ) (a1 : Int) : Option Bool :=
 (yQ k a1 0 (zA ((a0.2.1.length : Int) - 1))).bind fun x0 =>
 some x0
def zJg (k : Nat) (a0 : List (List Int)) : Option (List (List Int)) :=
 bif qR (0 + a0.length) 24 then some a0
 else none
def zDj (k : Nat) (a0 : List Int) (a1 a2 : Int) : Option (List Int) :=
 (zDy k a0).bind fun x0 =>
 bif decide (a1 ≥ 0) then (bif decide (a1 < (x0.length : Int)) then (bif zE a1 x0.length then some (x0.set a1.toNat a2)
   else none)
  else some x0)
 else some x0
def qLv (k : Nat) (a0 : Int) : Option Bool :=
 bif decide (a0 ≥ 0) then some (decide (a0 ≤ 10000))
 else some false
def zRb (k : Nat) (a0 a1 : Int) : Option vQ :=
 some ((IntKind.wrap .u64 ((IntKind.wrap .u64 ((IntKind.wrap .u64 ((shr .u64 a0 32) * (shr .u64 a1 32))) + (shr .u64 (IntKind.wrap .u64 ((IntKind.wrap .u64 ((shr .u64 a0 32) * (qV .u64 a1 4294967295))) + (shr .u64 (IntKind.wrap .u64 ((qV .u64 a0 4294967295) * (qV .u64 a1 4294967295))) 32))) 32))) + (shr .u64 (IntKind.wrap .u64 ((qV .u64 (IntKind.wrap .u64 ((IntKind.wrap .u64 ((shr .u64 a0 32) * (qV .u64 a1 4294967295))) + (shr .u64 (IntKind.wrap .u64 ((qV .u64 a0 4294967295) * (qV .u64 a1 4294967295))) 32))) 4294967295) + (IntKind.wrap .u64 ((qV .u64 a0 4294967295) * (shr .u64 a1 32))))) 32))), (IntKind.wrap .u64 (a0 * a1)))
def yBw (k : Nat) (a0 : Int) : Option Int :=
 bif decide (a0 ≥ 4294967296) then (bif decide ((shr .u64 a0 32) ≥ 65536) then (bif decide ((shr .u64 (shr .u64 a0 32) 16) ≥ 256) then none
   else none)
  else bif decide ((shr .u64 a0 32) ≥ 256) then none
  else none)
 else bif decide (a0 ≥ 65536) then (bif decide ((shr .u64 a0 16) ≥ 256) then none
  else none)
 else bif decide (a0 ≥ 256) then none
 else none
def yDa (k : Nat) (a0 : Int) : Option Int :=
 (yBw k a0).bind fun x0 =>
 some (zA (64 - x0))
abbrev zVh : Type := Int × Int × Int × Int × Int × Int × Int × Int
abbrev qJ3 : Type := Int → Int → Int → Int → Int → Int → Int → Int → Int → Option zVh
def yFm (k : Nat) (rec : qJ3) (s2 s8 s9 s10 s11 s13 s14 s15 s16 : Int) : Option zVh :=
 bif decide (s15 ≥ 4294967296) then (bif decide ((IntKind.wrap .u64 (s16 + s9)) ≥ 4294967296) then some (s2, s8, s9, s10, s11, s13, s14, (IntKind.wrap .u64 (s15 - 1)))
  else rec s2 s8 s9 s10 s11 s13 s14 (IntKind.wrap .u64 (s15 - 1)) (IntKind.wrap .u64 (s16 + s9)))
 else bif decide ((IntKind.wrap .u64 (s15 * s10)) > (IntKind.wrap .u64 ((IntKind.wrap .u64 (4294967296 * s16)) + s13))) then (bif decide ((IntKind.wrap .u64 (s16 + s9)) ≥ 4294967296) then some (s2, s8, s9, s10, s11, s13, s14, (IntKind.wrap .u64 (s15 - 1)))
  else rec s2 s8 s9 s10 s11 s13 s14 (IntKind.wrap .u64 (s15 - 1)) (IntKind.wrap .u64 (s16 + s9)))
 else some (s2, s8, s9, s10, s11, s13, s14, s15)
def qGl (k : Nat) : Nat → qJ3 := vX (fun _ _ _ _ _ _ _ _ _ => none) (yFm k)
abbrev zXx : Type := Int × Int × Int × Int × Int × Int
abbrev qMh : Type := Int → Int → Int → Int → Int → Int → Int → Int → Int → Option zXx
def qWh (k : Nat) (rec : qMh) (s2 s8 s9 s10 s14 s15 s16 s17 s18 : Int) : Option zXx :=
 bif decide (s18 ≥ 4294967296) then (bif decide ((IntKind.wrap .u64 (s16 + s9)) ≥ 4294967296) then some (s2, s8, s14, s15, s17, (IntKind.wrap .u64 (s18 - 1)))
  else rec s2 s8 s9 s10 s14 s15 (IntKind.wrap .u64 (s16 + s9)) s17 (IntKind.wrap .u64 (s18 - 1)))
 else bif decide ((IntKind.wrap .u64 (s18 * s10)) > (IntKind.wrap .u64 ((IntKind.wrap .u64 (4294967296 * s16)) + s14))) then (bif decide ((IntKind.wrap .u64 (s16 + s9)) ≥ 4294967296) then some (s2, s8, s14, s15, s17, (IntKind.wrap .u64 (s18 - 1)))
  else rec s2 s8 s9 s10 s14 s15 (IntKind.wrap .u64 (s16 + s9)) s17 (IntKind.wrap .u64 (s18 - 1)))
 else some (s2, s8, s14, s15, s17, s18)
def qCd (k : Nat) : Nat → qMh := vX (fun _ _ _ _ _ _ _ _ _ => none) (qWh k)
def zY3 (k : Nat) (a0 a1 a2 : Int) : Option vQ :=
 bif decide (a2 = 0) then none
 else bif decide (a2 ≤ a0) then none
 else bif decide (a0 = 0) then (bif !(decide (a2 = 0)) then (bif !(decide (a2 = 0)) then some ((IntKind.wrap .u64 (Int.tdiv a1 a2)), (Int.tmod a1 a2))
   else none)
  else none)
 else (yDa k a2).bind fun x0 =>
 bif !(decide ((IntKind.wrap .u64 (x0)) < 0)) then (bif !(decide ((IntKind.wrap .u64 (x0)) < 0)) then (bif !(decide ((IntKind.wrap .u64 (64 - (IntKind.wrap .u64 (x0)))) < 0)) then (bif !(decide ((IntKind.wrap .u64 (x0)) < 0)) then (bif !(decide ((shr .u64 (shl .u64 a2 (IntKind.wrap .u64 (x0))) 32) = 0)) then ((qGl k k (shl .u64 a2 (IntKind.wrap .u64 (x0))) (IntKind.wrap .u64 (x0)) (shr .u64 (shl .u64 a2 (IntKind.wrap .u64 (x0))) 32) (qV .u64 (shl .u64 a2 (IntKind.wrap .u64 (x0))) 4294967295) (bor .u64 (shl .u64 a0 (IntKind.wrap .u64 (x0))) (shr .u64 a1 (IntKind.wrap .u64 (64 - (IntKind.wrap .u64 (x0)))))) (shr .u64 (shl .u64 a1 (IntKind.wrap .u64 (x0))) 32) (qV .u64 (shl .u64 a1 (IntKind.wrap .u64 (x0))) 4294967295) (IntKind.wrap .u64 (Int.tdiv (bor .u64 (shl .u64 a0 (IntKind.wrap .u64 (x0))) (shr .u64 a1 (IntKind.wrap .u64 (64 - (IntKind.wrap .u64 (x0)))))) (shr .u64 (shl .u64 a2 (IntKind.wrap .u64 (x0))) 32))) (IntKind.wrap .u64 ((bor .u64 (shl .u64 a0 (IntKind.wrap .u64 (x0))) (shr .u64 a1 (IntKind.wrap .u64 (64 - (IntKind.wrap .u64 (x0)))))) - (IntKind.wrap .u64 ((IntKind.wrap .u64 (Int.tdiv (bor .u64 (shl .u64 a0 (IntKind.wrap .u64 (x0))) (shr .u64 a1 (IntKind.wrap .u64 (64 - (IntKind.wrap .u64 (x0)))))) (shr .u64 (shl .u64 a2 (IntKind.wrap .u64 (x0))) 32))) * (shr .u64 (shl .u64 a2 (IntKind.wrap .u64 (x0))) 32)))))).bind fun z =>
      bif !(decide (z.2.2.1 = 0)) then ((qCd k k z.1 z.2.1 z.2.2.1 z.2.2.2.1 z.2.2.2.2.2.2.1 z.2.2.2.2.2.2.2 (IntKind.wrap .u64 ((IntKind.wrap .u64 ((IntKind.wrap .u64 ((IntKind.wrap .u64 (z.2.2.2.2.1 * 4294967296)) + z.2.2.2.2.2.1)) - (IntKind.wrap .u64 (z.2.2.2.2.2.2.2 * z.1)))) - (IntKind.wrap .u64 ((IntKind.wrap .u64 (Int.tdiv (IntKind.wrap .u64 ((IntKind.wrap .u64 ((IntKind.wrap .u64 (z.2.2.2.2.1 * 4294967296)) + z.2.2.2.2.2.1)) - (IntKind.wrap .u64 (z.2.2.2.2.2.2.2 * z.1)))) z.2.2.1)) * z.2.2.1)))) (IntKind.wrap .u64 ((IntKind.wrap .u64 ((IntKind.wrap .u64 (z.2.2.2.2.1 * 4294967296)) + z.2.2.2.2.2.1)) - (IntKind.wrap .u64 (z.2.2.2.2.2.2.2 * z.1)))) (IntKind.wrap .u64 (Int.tdiv (IntKind.wrap .u64 ((IntKind.wrap .u64 ((IntKind.wrap .u64 (z.2.2.2.2.1 * 4294967296)) + z.2.2.2.2.2.1)) - (IntKind.wrap .u64 (z.2.2.2.2.2.2.2 * z.1)))) z.2.2.1))).bind fun z1 =>
       bif !(decide (z1.2.1 < 0)) then some ((IntKind.wrap .u64 ((IntKind.wrap .u64 (z1.2.2.2.1 * 4294967296)) + z1.2.2.2.2.2)), (shr .u64 (IntKind.wrap .u64 ((IntKind.wrap .u64 ((IntKind.wrap .u64 (z1.2.2.2.2.1 * 4294967296)) + z1.2.2.1)) - (IntKind.wrap .u64 (z1.2.2.2.2.2 * z1.1)))) z1.2.1))
       else none)
      else none)
     else none)
    else none)
   else none)
  else none)
 else none
def zYo (k : Nat) (a0 a1 a2 : Int) : Option wF :=
 bif decide (a0 < 0) then some (0, false)
 else bif decide (a1 < 0) then some (0, false)
 else (qLv k a2).bind fun x0 =>
 bif !x0 then some (0, false)
 else (zRb k (IntKind.wrap .u64 (a0)) (IntKind.wrap .u64 (a1))).bind fun x1 =>
 (zY3 k (Int.tmod x1.1 10000) x1.2 10000).bind fun x2 =>
 (zRb k x2.1 (IntKind.wrap .u64 ((zA (10000 - a2))))).bind fun x3 =>
 (zIf k x3.2 (IntKind.wrap .u64 (Int.tdiv (IntKind.wrap .u64 (x2.2 * (IntKind.wrap .u64 ((zA (10000 - a2)))))) 10000)) 0).bind fun x4 =>
 bif decide ((IntKind.wrap .u64 (Int.tdiv x1.1 10000)) > 0) then (bif decide ((IntKind.wrap .u64 ((zA (10000 - a2)))) > 0) then some (0, false)
  else bif decide ((IntKind.wrap .u64 (x3.1 + x4.2)) > 0) then some (0, false)
  else bif decide (x4.1 > 9223372036854775807) then some (0, false)
  else some ((zA (x4.1)), true))
 else bif decide ((IntKind.wrap .u64 (x3.1 + x4.2)) > 0) then some (0, false)
 else bif decide (x4.1 > 9223372036854775807) then some (0, false)
 else some ((zA (x4.1)), true)
abbrev qMv : Type := Int → Int → List Int → Int → Int → Option vQ
def zK7 (k : Nat) (rec : qMv) (s4 s5 : Int) (s9 : List Int) (s10 s11 : Int) : Option vQ :=
 bif decide (s11 < s10) then (bif zE s11 s9.length then ((zIf k s5 (IntKind.wrap .u64 ((s9.getD s11.toNat 0))) 0).bind fun x0 =>
   rec (zA (s4 + (zA ((shr .i64 (s9.getD s11.toNat 0) 63) + (zA (x0.2)))))) x0.1 s9 s10 (zA (s11 + 1)))
  else none)
 else some (s4, s5)
def zMk (k : Nat) : Nat → qMv
 | 0, _, _, _, _, _ => none
 | n + 1, s4, s5, s9, s10, s11 => zK7 k (zMk k n) s4 s5 s9 s10 s11
def zHz (k : Nat) (a0 : List Int) : Option wF :=
 (zMk k k 0 0 a0 (a0.length : Int) 0).bind fun z =>
 bif !(decide (z.1 = (shr .i64 (zA (z.2)) 63))) then some (0, false)
 else some ((zA (z.2)), true)
abbrev qJg : Type := List Int → List Int → List vQ → Int → Int → List Int → Option ((List Int) ⊕ wF)
def zJi (k : Nat) (rec : qJg) (s1 s2 : List Int) (s25 : List vQ) (s26 s27 : Int) (r0 : List Int) : Option ((List Int) ⊕ wF) :=
 bif decide (s27 < s26) then (bif zE s27 s25.length then (bif zE s27 s1.length then (bif zE s27 s2.length then ((zYo k (s1.getD s27.toNat 0) (s2.getD s27.toNat 0) (s25.getD s27.toNat (0, 0)).2).bind fun x0 =>
     bif !x0.2 then some (.inr (0, false))
     else bif qR (r0.length + 1) 8 then (rec s1 s2 s25 s26 (zA (s27 + 1)) (r0 ++ [x0.1]))
     else none)
    else none)
   else none)
  else none)
 else some (.inl r0)
def zK6 (k : Nat) : Nat → qJg := vX (fun _ _ _ _ _ _ => none) (zJi k)
def zEh (k : Nat) (a0 : List vQ) (a1 a2 : List Int) : Option wF :=
 bif !(decide ((a1.length : Int) = (a0.length : Int))) then some (0, false)
 else bif !(decide ((a2.length : Int) = (a0.length : Int))) then some (0, false)
 else (zK6 k k a1 a2 a0 (a0.length : Int) 0 []).bind fun z =>
 match z with
 | .inl z1 => (zHz k z1).bind fun x1 =>
  some (x1.1, x1.2)
 | .inr z2 => some (z2.1, z2.2)
def zUb (k : Nat) (a0 : wJ) (a1 a2 : Int) : Option (Int × wJ) :=
 (zPh k a0 a1).bind fun x0 =>
 bif !x0 then some (1, a0)
 else (yQ k a2 0 1099511627776).bind fun x1 =>
 bif !x1 then some (1, a0)
 else (zJg k a0.2.2.2.2.2.2.2.2.2.2.2.1).bind fun x2 =>
 bif zE a0.2.2.2.2.2.2.2.2.2.2.2.2.2.2.2.2.1 x2.length then ((zDj k (x2.getD a0.2.2.2.2.2.2.2.2.2.2.2.2.2.2.2.2.1.toNat []) a1 a2).bind fun x3 =>
  bif zE a0.2.2.2.2.2.2.2.2.2.2.2.2.2.2.2.2.1 x2.length then (let y0 : List (List Int) := (x2.set a0.2.2.2.2.2.2.2.2.2.2.2.2.2.2.2.2.1.toNat x3)
   bif zE a0.2.2.2.2.2.2.2.2.2.2.2.2.2.2.2.2.1 y0.length then ((zEh k a0.2.1 a0.2.2.2.2.2.2.2.2.2.2.1 (y0.getD a0.2.2.2.2.2.2.2.2.2.2.2.2.2.2.2.2.1.toNat [])).bind fun x4 =>
    bif zE a0.2.2.2.2.2.2.2.2.2.2.2.2.2.2.2.2.1 a0.2.2.2.2.2.2.1.length then (bif !x4.2 then some (8, a0)
     else bif decide (x4.1 > 1152921504606846976) then some (8, a0)
     else bif decide (x4.1 < (a0.2.2.2.2.2.2.1.getD a0.2.2.2.2.2.2.2.2.2.2.2.2.2.2.2.2.1.toNat (0, 0, 0)).2.1) then (bif decide ((zA ((a0.2.2.2.2.2.2.1.getD a0.2.2.2.2.2.2.2.2.2.2.2.2.2.2.2.2.1.toNat (0, 0, 0)).1 + x4.1)) < 0) then some (9, a0)
      else (jL k a0.2.2.2.2.2.2.1 a0.2.2.2.2.2.2.2.1 a0.2.2.2.2.2.2.2.2.1 a0.2.2.2.2.2.2.2.2.2.1).bind fun x5 =>
      bif zE a0.2.2.2.2.2.2.2.2.2.2.2.2.2.2.2.2.1 x5.1.length then (let y1 : List zO := (x5.1.set a0.2.2.2.2.2.2.2.2.2.2.2.2.2.2.2.2.1.toNat ((x5.1.getD a0.2.2.2.2.2.2.2.2.2.2.2.2.2.2.2.2.1.toNat (0, 0, 0)).1, x4.1, (x5.1.getD a0.2.2.2.2.2.2.2.2.2.2.2.2.2.2.2.2.1.toNat (0, 0, 0)).2.2))
       some (0, (zAr a0 (y1, x5.2.1, x5.2.2.1, x5.2.2.2, a0.2.2.2.2.2.2.2.2.2.2.1, y0, a0.2.2.2.2.2.2.2.2.2.2.2.2))))
      else none)
     else (jL k a0.2.2.2.2.2.2.1 a0.2.2.2.2.2.2.2.1 a0.2.2.2.2.2.2.2.2.1 a0.2.2.2.2.2.2.2.2.2.1).bind fun x6 =>
     bif zE a0.2.2.2.2.2.2.2.2.2.2.2.2.2.2.2.2.1 x6.1.length then (let y2 : List zO := (x6.1.set a0.2.2.2.2.2.2.2.2.2.2.2.2.2.2.2.2.1.toNat ((x6.1.getD a0.2.2.2.2.2.2.2.2.2.2.2.2.2.2.2.2.1.toNat (0, 0, 0)).1, x4.1, (x6.1.getD a0.2.2.2.2.2.2.2.2.2.2.2.2.2.2.2.2.1.toNat (0, 0, 0)).2.2))
      some (0, (zAr a0 (y2, x6.2.1, x6.2.2.1, x6.2.2.2, a0.2.2.2.2.2.2.2.2.2.2.1, y0, a0.2.2.2.2.2.2.2.2.2.2.2.2))))
     else none)
    else none)
   else none)
  else none)
 else none
def zQf (k : Nat) (a0 a1 : Int) : Option wF :=
 bif decide (a1 > 0) then (bif decide (a0 > (zA (9223372036854775807 - a1))) then some (0, false)
  else bif decide (a1 < 0) then (bif decide (a0 < (zA ((-9223372036854775808) - a1))) then some (0, false)
   else some ((zA (a0 + a1)), true))
  else some ((zA (a0 + a1)), true))
 else bif decide (a1 < 0) then (bif decide (a0 < (zA ((-9223372036854775808) - a1))) then some (0, false)
  else some ((zA (a0 + a1)), true))
 else some ((zA (a0 + a1)), true)
def qAg (k : Nat) (vKo vKp vKq : Int) : Option Bool :=
 bif decide (vKo > (-4611686018427387904)) then (bif decide (vKo < 4611686018427387904) then (bif decide (vKp ≥ 0) then (bif decide (vKp ≤ 2305843009213693952) then (bif decide (vKq ≥ 0) then some (decide (vKq ≤ 2305843009213693952))
     else some false)
    else some false)
   else some false)
  else some false)
 else some false
def zSc (k : Nat) (a0 : zO) (a1 : Int) : Option (zO × Int) :=
 (zQf k a0.1 a1).bind fun x0 =>
 bif !x0.2 then some (a0, 8)
 else (qAg k x0.1 a0.2.1 a0.2.2).bind fun x1 =>
 bif !x1 then some (a0, 8)
 else some ((x0.1, a0.2), 0)
def zLn (k : Nat) (a0 : zO) (a1 : Int) : Option (zO × Int) :=
 (zSc k a0 a1).bind fun x0 =>
 some (x0.1, x0.2)
def zFs (k : Nat) (vKo vKp vKq a1 : Int) : Option Int :=
 some (zQw false (zA (vKq - a1)) 0)
def zK0 (k : Nat) (a0 : zO) (a1 a2 : Int) : Option (zO × Int) :=
 (zSc k a0 (zA (0 - a1))).bind fun x0 =>
 bif decide (x0.2 = 0) then (bif decide (a2 = 1) then ((zFs k a0.1 a0.2.1 a0.2.2 a1).bind fun x1 =>
   some ((x0.1.1, x0.1.2.1, x1), x0.2))
  else bif decide (a2 = 2) then ((zFs k a0.1 a0.2.1 a0.2.2 a1).bind fun x2 =>
   some ((x0.1.1, x0.1.2.1, x2), x0.2))
  else some (x0.1, x0.2))
 else some (x0.1, x0.2)
def zJw (k : Nat) (a0 : zO) (a1 : Int) : Option Int :=
 bif decide (a1 = 3) then some (zA ((zA (a0.1 + a0.2.1)) - a0.2.2))
 else some (zA (a0.1 + a0.2.1))
def qKz (k : Nat) (a0 : wJ) (a1 a2 a3 : Int) : Option (Int × wJ) :=
 (yQ k a2 0 (zA (a0.1 - 1))).bind fun x0 =>
 bif !x0 then some (1, a0)
 else (yQ k a3 1 1099511627776).bind fun x1 =>
 bif !x1 then some (1, a0)
 else bif zE a2 a0.2.2.2.2.2.2.1.length then ((zLn k (a0.2.2.2.2.2.2.1.getD a2.toNat (0, 0, 0)) a3).bind fun x2 =>
  bif decide (a1 = 11) then ((zK0 k (a0.2.2.2.2.2.2.1.getD a2.toNat (0, 0, 0)) a3 3).bind fun x3 =>
   (zJw k (a0.2.2.2.2.2.2.1.getD a2.toNat (0, 0, 0)) 3).bind fun x4 =>
   bif decide (x4 < a3) then some (9, a0)
   else bif decide ((zA (a0.2.2.2.2.2.2.2.2.2.2.2.2.2.2.1 - a3)) < 0) then some (9, a0)
   else bif !(decide (x3.2 = 0)) then some (x3.2, a0)
   else bif decide ((zA (a0.2.2.2.2.2.2.2.2.2.2.2.2.2.2.1 - a3)) > 1152921504606846976) then some (8, a0)
   else (jL k a0.2.2.2.2.2.2.1 a0.2.2.2.2.2.2.2.1 a0.2.2.2.2.2.2.2.2.1 a0.2.2.2.2.2.2.2.2.2.1).bind fun x5 =>
   bif zE a2 x5.1.length then some (0, (zAr a0 ((x5.1.set a2.toNat x3.1), x5.2.1, x5.2.2.1, x5.2.2.2, (zYz a0 ((zA (a0.2.2.2.2.2.2.2.2.2.2.2.2.2.2.1 - a3)), a0.2.2.2.2.2.2.2.2.2.2.2.2.2.2.2)))))
   else none)
  else bif !(decide (x2.2 = 0)) then some (x2.2, a0)
  else bif decide ((zA (a0.2.2.2.2.2.2.2.2.2.2.2.2.2.2.1 + a3)) > 1152921504606846976) then some (8, a0)
  else (jL k a0.2.2.2.2.2.2.1 a0.2.2.2.2.2.2.2.1 a0.2.2.2.2.2.2.2.2.1 a0.2.2.2.2.2.2.2.2.2.1).bind fun x6 =>
  bif zE a2 x6.1.length then some (0, (zAr a0 ((x6.1.set a2.toNat x2.1), x6.2.1, x6.2.2.1, x6.2.2.2, (zYz a0 ((zA (a0.2.2.2.2.2.2.2.2.2.2.2.2.2.2.1 + a3)), a0.2.2.2.2.2.2.2.2.2.2.2.2.2.2.2)))))
  else none)
 else none
abbrev zXb : Type := (zA8 × (List yP) × (List Int) × (List zO) × (List (List Int)) × (List Int) × (List (List Int))) ⊕ (Int × zA8 × (List yP))
abbrev qM8 : Type := List (List Int) → Int → Int → zA8 → List yP → List Int → List zO → List (List Int) → List Int → List (List Int) → Option zXb
def yF3 (k : Nat) (rec : qM8) (s40 : List (List Int)) (s41 s42 : Int) (b0 : zA8) (r1 : List yP) (r2 : List Int) (r4 : List zO) (m5 : List (List Int)) (r6 : List Int) (m7 : List (List Int)) : Option zXb :=
 bif decide (s42 < s41) then (bif zE s42 s40.length then ((zEh k b0.2.1 r2 (s40.getD s42.toNat [])).bind fun x4 =>
   bif !x4.2 then some (.inr (8, b0, r1))
   else bif decide (x4.1 > 1152921504606846976) then some (.inr (8, b0, r1))
   else bif zE s42 r4.length then (let y0 : List zO := (r4.set s42.toNat ((r4.getD s42.toNat (0, 0, 0)).1, x4.1, (r4.getD s42.toNat (0, 0, 0)).2.2))
    rec s40 s41 (zA (s42 + 1)) b0 r1 r2 y0 m5 r6 m7)
   else none)
  else none)
 else some (.inl (b0, r1, r2, r4, m5, r6, m7))
def qK9 (k : Nat) : Nat → qM8 := vX (fun _ _ _ _ _ _ _ _ _ _ => none) (yF3 k)
def qQx (k : Nat) (a0 : wJ) (a1 a2 : Int) : Option (Int × wJ) :=
 (zPh k a0 a1).bind fun x0 =>
 bif !x0 then some (1, a0)
 else (yQ k a2 0 1048576).bind fun x1 =>
 bif !x1 then some (1, a0)
 else (zDj k a0.2.2.2.2.2.2.2.2.2.2.1 a1 a2).bind fun x2 =>
 (jL k a0.2.2.2.2.2.2.1 a0.2.2.2.2.2.2.2.1 a0.2.2.2.2.2.2.2.2.1 a0.2.2.2.2.2.2.2.2.2.1).bind fun x3 =>
 (qK9 k k a0.2.2.2.2.2.2.2.2.2.2.2.1 (a0.2.2.2.2.2.2.2.2.2.2.2.1.length : Int) 0 (zBa a0) a0.2.2.2.2.2.2.2.2.2.2.2.2.2.2.2.2.2 x2 x3.1 x3.2.1 x3.2.2.1 x3.2.2.2).bind fun z =>
 match z with
 | .inl z1 => some (0, (zAr z1.1 (vCf z1 (z1.2.2.1, (qKw z1.1 z1.2.1)))))
 | .inr z2 => some (z2.1, (yT z2.2.1 z2.2.2))
def zZ3 (k : Nat) (a0 : wJ) (a1 : zD) : Option (Int × wJ) :=
 bif decide (a1.1 = 1) then ((zT1 k a0 a1.2).bind fun x0 =>
  some (x0.1, x0.2))
 else bif decide (a1.1 = 2) then ((zI4 k a0 a1).bind fun x1 =>
  some (x1.1, x1.2))
 else bif decide (a1.1 = 3) then ((zI4 k a0 a1).bind fun x2 =>
  some (x2.1, x2.2))
 else bif decide (a1.1 = 4) then ((zI4 k a0 a1).bind fun x3 =>
  some (x3.1, x3.2))
 else bif decide (a1.1 = 5) then ((zHn k a0 a1).bind fun x4 =>
  some (x4.1, x4.2))
 else bif decide (a1.1 = 6) then ((zHn k a0 a1).bind fun x5 =>
  some (x5.1, x5.2))
 else bif decide (a1.1 = 7) then ((zHn k a0 a1).bind fun x6 =>
  some (x6.1, x6.2))
 else bif decide (a1.1 = 8) then ((zUb k a0 a1.2.1 a1.2.2.1).bind fun x7 =>
  some (x7.1, x7.2))
 else bif decide (a1.1 = 10) then ((qKz k a0 a1.1 a1.2.1 a1.2.2.1).bind fun x8 =>
  some (x8.1, x8.2))
 else bif decide (a1.1 = 11) then ((qKz k a0 a1.1 a1.2.1 a1.2.2.1).bind fun x9 =>
  some (x9.1, x9.2))
 else bif decide (a1.1 = 12) then ((qQx k a0 a1.2.1 a1.2.2.1).bind fun x10 =>
  some (x10.1, x10.2))
 else some (0, a0)
def zNy (k : Nat) (vKr : Int) (vKs : List vQ) (vKt vKu vKv a1 : Int) : Option Bool :=
 some (decide (a1 = vKu))
def zC8 (k : Nat) (a0 a1 : Int) (a2 : List Int) : Option yP :=
 some (a0, a1, (bif (Nat.blt 0 a2.length) then (a2.getD 0 0) else 0), (bif (Nat.blt 1 a2.length) then (a2.getD 1 0) else 0), (bif (Nat.blt 2 a2.length) then (a2.getD 2 0) else 0), (bif (Nat.blt 3 a2.length) then (a2.getD 3 0) else 0), (bif (Nat.blt 4 a2.length) then (a2.getD 4 0) else 0), (bif (Nat.blt 5 a2.length) then (a2.getD 5 0) else 0))
abbrev zTq : Type := Int × (List zO) × (List (List Int)) × (List Int) × (List (List Int)) × (List Int) × (List (List Int)) × (List zD) × (List Int) × Int × Bool × Int × Int × Bool × (List yP)
abbrev qBt : Type := List zD → Int → Int → Int → List zO → List (List Int) → List Int → List (List Int) → List Int → List (List Int) → List zD → List Int → Int → Bool → Int → Int → Bool → List yP → Option zTq
def zL0 (k : Nat) (rec : qBt) (s10 : List zD) (s11 s12 b0_0 : Int) (b0_1 : List zO) (b0_2 : List (List Int)) (b0_3 : List Int) (b0_4 : List (List Int)) (b0_5 : List Int) (b0_6 : List (List Int)) (b0_7 : List zD) (b0_8 : List Int) (b0_9 : Int) (b0_10 : Bool) (b1_0 b1_9 : Int) (b1_10 : Bool) (r2 : List yP) : Option zTq :=
 bif decide (s12 < s11) then (bif zE s12 s10.length then ((zC8 k (s10.getD s12.toNat (0, 0, 0, 0, 0, 0, 0)).2.1 22 [(s10.getD s12.toNat (0, 0, 0, 0, 0, 0, 0)).1]).bind fun x0 =>
   bif qR (r2.length + 1) 64 then (rec s10 s11 (zA (s12 + 1)) b0_0 b0_1 b0_2 b0_3 b0_4 b0_5 b0_6 b0_7 b0_8 b0_9 b0_10 b1_0 b1_9 b1_10 (r2 ++ [x0]))
   else none)
  else none)
 else some (b0_0, b0_1, b0_2, b0_3, b0_4, b0_5, b0_6, b0_7, b0_8, b0_9, b0_10, b1_0, b1_9, b1_10, r2)
def zLk (k : Nat) : Nat → qBt
 | 0, _, _, _, _, _, _, _, _, _, _, _, _, _, _, _, _, _, _ => none
 | n + 1, s10, s11, s12, b0_0, b0_1, b0_2, b0_3, b0_4, b0_5, b0_6, b0_7, b0_8, b0_9, b0_10, b1_0, b1_9, b1_10, r2 => zL0 k (zLk k n) s10 s11 s12 b0_0 b0_1 b0_2 b0_3 b0_4 b0_5 b0_6 b0_7 b0_8 b0_9 b0_10 b1_0 b1_9 b1_10 r2
abbrev zTt : Type := Int × (List zO) × (List (List Int)) × (List Int) × (List (List Int)) × (List Int) × (List (List Int)) × (List zD) × (List Int) × Int × Bool × Int × Int × Bool × (List yP)
abbrev qMr : Type := List zO → Int → Int → Int → List zO → List (List Int) → List Int → List (List Int) → List Int → List (List Int) → List zD → List Int → Int → Bool → Int → Int → Bool → List yP → Option zTt
def zLm (k : Nat) (rec : qMr) (s28 : List zO) (s29 s30 b0_0 : Int) (b0_1 : List zO) (b0_2 : List (List Int)) (b0_3 : List Int) (b0_4 : List (List Int)) (b0_5 : List Int) (b0_6 : List (List Int)) (b0_7 : List zD) (b0_8 : List Int) (b0_9 : Int) (b0_10 : Bool) (b1_0 b1_9 : Int) (b1_10 : Bool) (r2 : List yP) : Option zTt :=
 bif decide (s30 < s29) then (bif zE s30 s28.length then ((zC8 k s30 23 [(s28.getD s30.toNat (0, 0, 0)).1]).bind fun x1 =>
   bif qR (r2.length + 1) 64 then (rec s28 s29 (zA (s30 + 1)) b0_0 b0_1 b0_2 b0_3 b0_4 b0_5 b0_6 b0_7 b0_8 b0_9 b0_10 b1_0 b1_9 b1_10 (r2 ++ [x1]))
   else none)
  else none)
 else some (b0_0, b0_1, b0_2, b0_3, b0_4, b0_5, b0_6, b0_7, b0_8, b0_9, b0_10, b1_0, b1_9, b1_10, r2)
def zK8 (k : Nat) : Nat → qMr
 | 0, _, _, _, _, _, _, _, _, _, _, _, _, _, _, _, _, _, _ => none
 | n + 1, s28, s29, s30, b0_0, b0_1, b0_2, b0_3, b0_4, b0_5, b0_6, b0_7, b0_8, b0_9, b0_10, b1_0, b1_9, b1_10, r2 => zLm k (zK8 k n) s28 s29 s30 b0_0 b0_1 b0_2 b0_3 b0_4 b0_5 b0_6 b0_7 b0_8 b0_9 b0_10 b1_0 b1_9 b1_10 r2
def qAf (k : Nat) (vKw : Int) (vKx : List zO) (vKy : List (List Int)) (vKz : List Int) (vK0 : List (List Int)) (vK1 : List Int) (vK2 : List (List Int)) (vK3 : List zD) (vK4 : List Int) (vK5 : Int) (vK6 : Bool) : Option qF7 :=
 (zLk k k vK3 (vK3.length : Int) 0 vKw vKx vKy vKz vK0 vK1 vK2 vK3 vK4 vK5 vK6 0 0 false []).bind fun z =>
 (zK8 k k z.2.1 (z.2.1.length : Int) 0 z.1 z.2.1 z.2.2.1 z.2.2.2.1 z.2.2.2.2.1 z.2.2.2.2.2.1 z.2.2.2.2.2.2.1 z.2.2.2.2.2.2.2.1 z.2.2.2.2.2.2.2.2.1 z.2.2.2.2.2.2.2.2.2.1 z.2.2.2.2.2.2.2.2.2.2.1 z.2.2.2.2.2.2.2.2.2.2.2.1 z.2.2.2.2.2.2.2.2.2.2.2.2.1 z.2.2.2.2.2.2.2.2.2.2.2.2.2.1 z.2.2.2.2.2.2.2.2.2.2.2.2.2.2).bind fun z1 =>
 some (zQo z1 ([], z1.2.2.2.2.2.2.2.2.1, z1.2.2.2.2.2.2.2.2.2.1, true, z1.2.2.2.2.2.2.2.2.2.2.2.2.2.2))
def qO0 (k : Nat) (vJ6 vJ7 vJ8 vJ9 vKa vKb vKc a1 : Int) : Option Bool :=
 some (decide (a1 > vKc))
def qA3 (k : Nat) (vKr : Int) (vKs : List vQ) (vKt vKu vKv a1 : Int) : Option Bool :=
 bif decide (a1 > 0) then (bif decide (a1 < vKu) then (bif !(decide (vKv = 0)) then some (decide ((Int.tmod a1 vKv) = 0))
   else none)
  else some false)
 else some false
def qHz (k : Nat) (vJ6 vJ7 vJ8 vJ9 vKa vKb vKc a1 : Int) : Option Bool :=
 bif decide (a1 ≥ vKb) then some (decide (a1 ≤ vKc))
 else some false
def qJz (k : Nat) (vJ6 vJ7 vJ8 vJ9 vKa vKb vKc a1 : Int) : Option Bool :=
 (qHz k vJ6 vJ7 vJ8 vJ9 vKa vKb vKc a1).bind fun x0 =>
 some x0
abbrev zY5 : Type := List zD
abbrev qFp : Type := List zD → Int → Int → Int → List zD → Option zY5
def zJs (k : Nat) (rec : qFp) (s8 : List zD) (s9 s10 b0_0 : Int) (r1 : List zD) : Option zY5 :=
 bif decide (s10 < s9) then (bif zE s10 s8.length then ((qJz k (s8.getD s10.toNat (0, 0, 0, 0, 0, 0, 0)).1 (s8.getD s10.toNat (0, 0, 0, 0, 0, 0, 0)).2.1 (s8.getD s10.toNat (0, 0, 0, 0, 0, 0, 0)).2.2.1 (s8.getD s10.toNat (0, 0, 0, 0, 0, 0, 0)).2.2.2.1 (s8.getD s10.toNat (0, 0, 0, 0, 0, 0, 0)).2.2.2.2.1 (s8.getD s10.toNat (0, 0, 0, 0, 0, 0, 0)).2.2.2.2.2.1 (s8.getD s10.toNat (0, 0, 0, 0, 0, 0, 0)).2.2.2.2.2.2 b0_0).bind fun x0 =>
   bif x0 then (bif qR (r1.length + 1) 56 then (let y0 : List zD := (r1 ++ [(s8.getD s10.toNat (0, 0, 0, 0, 0, 0, 0))])
     rec s8 s9 (zA (s10 + 1)) b0_0 y0)
    else none)
   else rec s8 s9 (zA (s10 + 1)) b0_0 r1)
  else none)
 else some r1
def zQs (k : Nat) : Nat → qFp
 | 0, _, _, _, _, _ => none
 | n + 1, s8, s9, s10, b0_0, r1 => zJs k (zQs k n) s8 s9 s10 b0_0 r1
def qKa (k : Nat) (a0 : List zD) (a1_0 : Int) : Option (List zD) :=
 (zQs k k a0 (a0.length : Int) 0 a1_0 []).bind fun z =>
 some z
def zL7 (k : Nat) (a0 : List zD) (a1 : Int) : Option (List zD) :=
 (qKa k a0 a1).bind fun x0 =>
 some x0
def qJd (k : Nat) (vJ6 vJ7 vJ8 vJ9 vKa vKb vKc vKd vKe vKf vKg vKh vKi vKj : Int) : Option Bool :=
 bif decide (vJ7 = vKe) then some (!(decide (vKa = 3)))
 else some false
abbrev qLc : Type := List zD → Int → Int → Int → Int → Int → Int → Int → Int → Int → Option (Unit ⊕ Int)
def zLv (k : Nat) (rec : qLc) (s0 : List zD) (s7 s8 b0_0 b0_1 b0_2 b0_3 b0_4 b0_5 b0_6 : Int) : Option (Unit ⊕ Int) :=
 bif decide (s8 < s7) then (bif zE s8 s0.length then ((qJd k (s0.getD s8.toNat (0, 0, 0, 0, 0, 0, 0)).1 (s0.getD s8.toNat (0, 0, 0, 0, 0, 0, 0)).2.1 (s0.getD s8.toNat (0, 0, 0, 0, 0, 0, 0)).2.2.1 (s0.getD s8.toNat (0, 0, 0, 0, 0, 0, 0)).2.2.2.1 (s0.getD s8.toNat (0, 0, 0, 0, 0, 0, 0)).2.2.2.2.1 (s0.getD s8.toNat (0, 0, 0, 0, 0, 0, 0)).2.2.2.2.2.1 (s0.getD s8.toNat (0, 0, 0, 0, 0, 0, 0)).2.2.2.2.2.2 b0_0 b0_1 b0_2 b0_3 b0_4 b0_5 b0_6).bind fun x0 =>
   bif x0 then some (.inr s8)
   else rec s0 s7 (zA (s8 + 1)) b0_0 b0_1 b0_2 b0_3 b0_4 b0_5 b0_6)
  else none)
 else some (.inl ())
def zLg (k : Nat) : Nat → qLc
 | 0, _, _, _, _, _, _, _, _, _, _ => none
 | n + 1, s0, s7, s8, b0_0, b0_1, b0_2, b0_3, b0_4, b0_5, b0_6 => zLv k (zLg k n) s0 s7 s8 b0_0 b0_1 b0_2 b0_3 b0_4 b0_5 b0_6
def qGa (k : Nat) (a0 : List zD) (vK7 vK8 vK9 vLa vLb vLc vLd : Int) : Option Int :=
 (zLg k k a0 (a0.length : Int) 0 vK7 vK8 vK9 vLa vLb vLc vLd).bind fun z =>
 match z with
 | .inl z1 => some (-1)
 | .inr z2 => some z2
def zV5 (k : Nat) (a0 : List zD) (vK7 vK8 vK9 vLa vLb vLc vLd : Int) : Option Bool :=
 (qGa k a0 vK7 vK8 vK9 vLa vLb vLc vLd).bind fun x0 =>
 some (decide (x0 ≥ 0))
def qL9 (k : Nat) (vJ6 vJ7 vJ8 vJ9 vKa vKb vKc : Int) (a1 : List wF) (a2 : List zD) : Option (Bool × (List wF)) :=
 bif !(Option.getD (List.lookup vJ7 a1) false) then some (true, ((vJ7, true) :: a1))
 else bif decide (vKa = 3) then ((zV5 k a2 vJ6 vJ7 vJ8 vJ9 vKa vKb vKc).bind fun x0 =>
  some ((!x0), ((vJ7, true) :: a1)))
 else some (false, ((vJ7, true) :: a1))
abbrev zUw : Type := (List wF) × (List zD) × (List zD)
abbrev qK6 : Type := List zD → Int → Int → List wF → List zD → List zD → Option zUw
def zKq (k : Nat) (rec : qK6) (s8 : List zD) (s9 s10 : Int) (p1 : List wF) (b2_0 r3 : List zD) : Option zUw :=
 bif decide (s10 < s9) then (bif zE s10 s8.length then ((qL9 k (s8.getD s10.toNat (0, 0, 0, 0, 0, 0, 0)).1 (s8.getD s10.toNat (0, 0, 0, 0, 0, 0, 0)).2.1 (s8.getD s10.toNat (0, 0, 0, 0, 0, 0, 0)).2.2.1 (s8.getD s10.toNat (0, 0, 0, 0, 0, 0, 0)).2.2.2.1 (s8.getD s10.toNat (0, 0, 0, 0, 0, 0, 0)).2.2.2.2.1 (s8.getD s10.toNat (0, 0, 0, 0, 0, 0, 0)).2.2.2.2.2.1 (s8.getD s10.toNat (0, 0, 0, 0, 0, 0, 0)).2.2.2.2.2.2 p1 b2_0).bind fun x0 =>
   bif x0.1 then (bif qR (r3.length + 1) 56 then (let y0 : List zD := (r3 ++ [(s8.getD s10.toNat (0, 0, 0, 0, 0, 0, 0))])
     rec s8 s9 (zA (s10 + 1)) x0.2 b2_0 y0)
    else none)
   else rec s8 s9 (zA (s10 + 1)) x0.2 b2_0 r3)
  else none)
 else some (p1, b2_0, r3)
def zMo (k : Nat) : Nat → qK6
 | 0, _, _, _, _, _, _ => none
 | n + 1, s8, s9, s10, p1, b2_0, r3 => zKq k (zMo k n) s8 s9 s10 p1 b2_0 r3
def qJk (k : Nat) (a0 : List zD) (a1_0 : List wF) (a1_1 : List zD) : Option ((List zD) × (List wF)) :=
 (zMo k k a0 (a0.length : Int) 0 a1_0 a1_1 []).bind fun z =>
 some (z.2.2, z.1)
def zPf (k : Nat) (a0 : List zD) (a1 : Int) : Option (List zD) :=
 (zL7 k a0 a1).bind fun x0 =>
 (qJk k x0 [] x0).bind fun x1 =>
 some x1.1
def zOl (k : Nat) (vKk : List zO) (vKl : List (List Int)) (vKm : List Int) (vKn : List (List Int)) (vKd vKe vKf vKg vKh vKi vKj : Int) : Option Bool :=
 bif decide (vKe ≥ 0) then (bif decide (vKe < (vKk.length : Int)) then (bif decide (vKf ≥ 0) then (bif decide (vKf < (vKk.length : Int)) then (bif !(decide (vKe = vKf)) then (bif decide (vKg ≥ 1) then (bif decide (vKg ≤ 1099511627776) then (bif decide (vKh ≥ 1) then some (decide (vKh ≤ 3))
        else some false)
       else some false)
      else some false)
     else some false)
    else some false)
   else some false)
  else some false)
 else some false
def qBg (k : Nat) (vJ6 vJ7 vJ8 vJ9 vKa vKb vKc : Int) (vLe : List zO) (vLf : List (List Int)) (vLg : List Int) (vLh : List (List Int)) : Option Bool :=
 (zOl k vLe vLf vLg vLh vJ6 vJ7 vJ8 vJ9 vKa vKb vKc).bind fun x0 =>
 some (!x0)
abbrev qJj : Type := List zD → Int → Int → List zO → List (List Int) → List Int → List (List Int) → Option (Unit ⊕ Int)
def zJ2 (k : Nat) (rec : qJj) (s0 : List zD) (s7 s8 : Int) (b0_0 : List zO) (b0_1 : List (List Int)) (b0_2 : List Int) (b0_3 : List (List Int)) : Option (Unit ⊕ Int) :=
 bif decide (s8 < s7) then (bif zE s8 s0.length then ((qBg k (s0.getD s8.toNat (0, 0, 0, 0, 0, 0, 0)).1 (s0.getD s8.toNat (0, 0, 0, 0, 0, 0, 0)).2.1 (s0.getD s8.toNat (0, 0, 0, 0, 0, 0, 0)).2.2.1 (s0.getD s8.toNat (0, 0, 0, 0, 0, 0, 0)).2.2.2.1 (s0.getD s8.toNat (0, 0, 0, 0, 0, 0, 0)).2.2.2.2.1 (s0.getD s8.toNat (0, 0, 0, 0, 0, 0, 0)).2.2.2.2.2.1 (s0.getD s8.toNat (0, 0, 0, 0, 0, 0, 0)).2.2.2.2.2.2 b0_0 b0_1 b0_2 b0_3).bind fun x0 =>
   bif x0 then some (.inr s8)
   else rec s0 s7 (zA (s8 + 1)) b0_0 b0_1 b0_2 b0_3)
  else none)
 else some (.inl ())
def zSt (k : Nat) : Nat → qJj
 | 0, _, _, _, _, _, _, _ => none
 | n + 1, s0, s7, s8, b0_0, b0_1, b0_2, b0_3 => zJ2 k (zSt k n) s0 s7 s8 b0_0 b0_1 b0_2 b0_3
def qN1 (k : Nat) (a0 : List zD) (vLi : List zO) (vLj : List (List Int)) (vLk : List Int) (vLl : List (List Int)) : Option Int :=
 (zSt k k a0 (a0.length : Int) 0 vLi vLj vLk vLl).bind fun z =>
 match z with
 | .inl z1 => some (-1)
 | .inr z2 => some z2
def zZt (k : Nat) (a0 : List zD) (vLi : List zO) (vLj : List (List Int)) (vLk : List Int) (vLl : List (List Int)) : Option Bool :=
 (qN1 k a0 vLi vLj vLk vLl).bind fun x0 =>
 some (decide (x0 ≥ 0))
abbrev zUy : Type := (List Int) × (List Int) × (List (List Int))
abbrev qE6 : Type := List zD → Int → Int → List Int → List Int → List (List Int) → Option zUy
def zMe (k : Nat) (rec : qE6) (s15 : List zD) (s16 s17 : Int) (r2 r3 : List Int) (m4 : List (List Int)) : Option zUy :=
 bif decide (s17 < s16) then (bif zE s17 s15.length then (bif zE (s15.getD s17.toNat (0, 0, 0, 0, 0, 0, 0)).2.1 r2.length then (bif zE (s15.getD s17.toNat (0, 0, 0, 0, 0, 0, 0)).2.1 r2.length then (let y0 : List Int := (r2.set (s15.getD s17.toNat (0, 0, 0, 0, 0, 0, 0)).2.1.toNat (zA ((r2.getD (s15.getD s17.toNat (0, 0, 0, 0, 0, 0, 0)).2.1.toNat 0) - (s15.getD s17.toNat (0, 0, 0, 0, 0, 0, 0)).2.2.2.1)))
     bif zE (s15.getD s17.toNat (0, 0, 0, 0, 0, 0, 0)).2.2.1 y0.length then (bif zE (s15.getD s17.toNat (0, 0, 0, 0, 0, 0, 0)).2.2.1 y0.length then (let y1 : List Int := (y0.set (s15.getD s17.toNat (0, 0, 0, 0, 0, 0, 0)).2.2.1.toNat (zA ((y0.getD (s15.getD s17.toNat (0, 0, 0, 0, 0, 0, 0)).2.2.1.toNat 0) + (s15.getD s17.toNat (0, 0, 0, 0, 0, 0, 0)).2.2.2.1)))
       bif zE (s15.getD s17.toNat (0, 0, 0, 0, 0, 0, 0)).2.1 m4.length then (bif zE (s15.getD s17.toNat (0, 0, 0, 0, 0, 0, 0)).2.2.1 (m4.getD (s15.getD s17.toNat (0, 0, 0, 0, 0, 0, 0)).2.1.toNat []).length then (bif zE (s15.getD s17.toNat (0, 0, 0, 0, 0, 0, 0)).2.2.1 (m4.getD (s15.getD s17.toNat (0, 0, 0, 0, 0, 0, 0)).2.1.toNat []).length then (let y2 : List (List Int) := (m4.set (s15.getD s17.toNat (0, 0, 0, 0, 0, 0, 0)).2.1.toNat ((m4.getD (s15.getD s17.toNat (0, 0, 0, 0, 0, 0, 0)).2.1.toNat []).set (s15.getD s17.toNat (0, 0, 0, 0, 0, 0, 0)).2.2.1.toNat (zA (((m4.getD (s15.getD s17.toNat (0, 0, 0, 0, 0, 0, 0)).2.1.toNat []).getD (s15.getD s17.toNat (0, 0, 0, 0, 0, 0, 0)).2.2.1.toNat 0) + (s15.getD s17.toNat (0, 0, 0, 0, 0, 0, 0)).2.2.2.1))))
          bif zE (s15.getD s17.toNat (0, 0, 0, 0, 0, 0, 0)).2.2.1 y2.length then (bif zE (s15.getD s17.toNat (0, 0, 0, 0, 0, 0, 0)).2.1 (y2.getD (s15.getD s17.toNat (0, 0, 0, 0, 0, 0, 0)).2.2.1.toNat []).length then (bif zE (s15.getD s17.toNat (0, 0, 0, 0, 0, 0, 0)).2.1 (y2.getD (s15.getD s17.toNat (0, 0, 0, 0, 0, 0, 0)).2.2.1.toNat []).length then (let y3 : List (List Int) := (y2.set (s15.getD s17.toNat (0, 0, 0, 0, 0, 0, 0)).2.2.1.toNat ((y2.getD (s15.getD s17.toNat (0, 0, 0, 0, 0, 0, 0)).2.2.1.toNat []).set (s15.getD s17.toNat (0, 0, 0, 0, 0, 0, 0)).2.1.toNat (zA (((y2.getD (s15.getD s17.toNat (0, 0, 0, 0, 0, 0, 0)).2.2.1.toNat []).getD (s15.getD s17.toNat (0, 0, 0, 0, 0, 0, 0)).2.1.toNat 0) - (s15.getD s17.toNat (0, 0, 0, 0, 0, 0, 0)).2.2.2.1))))
             bif !(decide ((s15.getD s17.toNat (0, 0, 0, 0, 0, 0, 0)).2.2.2.2.1 = 3)) then (bif zE (s15.getD s17.toNat (0, 0, 0, 0, 0, 0, 0)).2.1 r3.length then (bif zE (s15.getD s17.toNat (0, 0, 0, 0, 0, 0, 0)).2.1 r3.length then (let y4 : List Int := (r3.set (s15.getD s17.toNat (0, 0, 0, 0, 0, 0, 0)).2.1.toNat (zA ((r3.getD (s15.getD s17.toNat (0, 0, 0, 0, 0, 0, 0)).2.1.toNat 0) + (s15.getD s17.toNat (0, 0, 0, 0, 0, 0, 0)).2.2.2.1)))
                rec s15 s16 (zA (s17 + 1)) y1 y4 y3)
               else none)
              else none)
             else rec s15 s16 (zA (s17 + 1)) y1 r3 y3)
            else none)
           else none)
          else none)
         else none)
        else none)
       else none)
      else none)
     else none)
    else none)
   else none)
  else none)
 else some (r2, r3, m4)
def zMg (k : Nat) : Nat → qE6
 | 0, _, _, _, _, _, _ => none
 | n + 1, s15, s16, s17, r2, r3, m4 => zMe k (zMg k n) s15 s16 s17 r2 r3 m4
def zWw (k : Nat) (a0 : Int) (a1 : List zD) : Option ((List Int) × (List Int) × (List (List Int))) :=
 (zHp k a0 0).bind fun x0 =>
 (zHp k a0 0).bind fun x1 =>
 (zKy k a0 0).bind fun x2 =>
 (zMg k k a1 (a1.length : Int) 0 x0 x1 x2).bind fun z =>
 some (z.1, z.2.1, z.2.2)
def qKn (k : Nat) (vJ6 vJ7 vJ8 vJ9 vKa vKb vKc a1 : Int) : Option Bool :=
 some (decide (vJ7 = a1))
abbrev qPz : Type := List zD → Int → Int → Int → Option (Unit ⊕ Int)
def zNb (k : Nat) (rec : qPz) (s0 : List zD) (s7 s8 b0_0 : Int) : Option (Unit ⊕ Int) :=
 bif decide (s8 < s7) then (bif zE s8 s0.length then ((qKn k (s0.getD s8.toNat (0, 0, 0, 0, 0, 0, 0)).1 (s0.getD s8.toNat (0, 0, 0, 0, 0, 0, 0)).2.1 (s0.getD s8.toNat (0, 0, 0, 0, 0, 0, 0)).2.2.1 (s0.getD s8.toNat (0, 0, 0, 0, 0, 0, 0)).2.2.2.1 (s0.getD s8.toNat (0, 0, 0, 0, 0, 0, 0)).2.2.2.2.1 (s0.getD s8.toNat (0, 0, 0, 0, 0, 0, 0)).2.2.2.2.2.1 (s0.getD s8.toNat (0, 0, 0, 0, 0, 0, 0)).2.2.2.2.2.2 b0_0).bind fun x0 =>
   bif x0 then some (.inr s8)
   else rec s0 s7 (zA (s8 + 1)) b0_0)
  else none)
 else some (.inl ())
def zRi (k : Nat) : Nat → qPz
 | 0, _, _, _, _ => none
 | n + 1, s0, s7, s8, b0_0 => zNb k (zRi k n) s0 s7 s8 b0_0
def qM0 (k : Nat) (a0 : List zD) (a1_0 : Int) : Option Int :=
 (zRi k k a0 (a0.length : Int) 0 a1_0).bind fun z =>
 match z with
 | .inl z1 => some (-1)
 | .inr z2 => some z2
def zXg (k : Nat) (a0 : List zD) (a1_0 : Int) : Option Bool :=
 (qM0 k a0 a1_0).bind fun x0 =>
 some (decide (x0 ≥ 0))
def zOa (k : Nat) (rec : Int → List Int → Int → Int → Option Int) (s5 : Int) (s12 : List Int) (s13 s14 : Int) : Option Int :=
 bif decide (s14 < s13) then (bif zE s14 s12.length then (rec (zA (s5 + (s12.getD s14.toNat 0))) s12 s13 (zA (s14 + 1)))
  else none)
 else some s5
def zJx (k : Nat) : Nat → Int → List Int → Int → Int → Option Int
 | 0, _, _, _, _ => none
 | n + 1, s5, s12, s13, s14 => zOa k (zJx k n) s5 s12 s13 s14
def zUt (k : Nat) (vKk : List zO) (vKl : List (List Int)) (vKm : List Int) (vKn : List (List Int)) (a1 : Int) : Option Int :=
 bif zE a1 vKn.length then ((zJx k k 0 (vKn.getD a1.toNat []) ((vKn.getD a1.toNat []).length : Int) 0).bind fun z =>
  some z)
 else none
def zKz (k : Nat) (a0 a1 : Int) : Option Bool :=
 bif !(decide (a1 = (-1))) then some (decide (a0 > a1))
 else some false
def qN4 (k : Nat) (vJ6 vJ7 vJ8 vJ9 vKa vKb vKc a1 vLm vLn vLo : Int) (a3more a3spent : List Int) (a3sent : List (List Int)) (a4 : Int) (vLp : List zO) (vLq : List (List Int)) (vLr : List Int) (vLs : List (List Int)) : Option Bool :=
 bif !(decide (vJ7 = a1)) then some false
 else bif zE a1 a3spent.length then ((zFs k vLm vLn vLo (a3spent.getD a1.toNat 0)).bind fun x0 =>
  bif decide (vKa = 3) then (bif decide (a4 < x0) then some true
   else bif zE a1 vLs.length then (bif zE vJ8 (vLs.getD a1.toNat []).length then (bif zE a1 a3sent.length then (bif zE vJ8 (a3sent.getD a1.toNat []).length then (bif zE a1 vLq.length then (bif zE vJ8 (vLq.getD a1.toNat []).length then ((zKz k (zA (((vLs.getD a1.toNat []).getD vJ8.toNat 0) + ((a3sent.getD a1.toNat []).getD vJ8.toNat 0))) ((vLq.getD a1.toNat []).getD vJ8.toNat 0)).bind fun x1 =>
         some x1)
        else none)
       else none)
      else none)
     else none)
    else none)
   else none)
  else bif zE a1 vLs.length then (bif zE vJ8 (vLs.getD a1.toNat []).length then (bif zE a1 a3sent.length then (bif zE vJ8 (a3sent.getD a1.toNat []).length then (bif zE a1 vLq.length then (bif zE vJ8 (vLq.getD a1.toNat []).length then ((zKz k (zA (((vLs.getD a1.toNat []).getD vJ8.toNat 0) + ((a3sent.getD a1.toNat []).getD vJ8.toNat 0))) ((vLq.getD a1.toNat []).getD vJ8.toNat 0)).bind fun x2 =>
        some x2)
       else none)
      else none)
     else none)
    else none)
   else none)
  else none)
 else none
abbrev qJp : Type := List zD → Int → Int → Int → Int → Int → Int → List Int → List Int → List (List Int) → Int → List zO → List (List Int) → List Int → List (List Int) → Option (Unit ⊕ Int)
def zL5 (k : Nat) (rec : qJp) (s0 : List zD) (s7 s8 b0_0 b1_0 b1_1 b1_2 : Int) (b2_0 b2_1 : List Int) (b2_2 : List (List Int)) (b3_0 : Int) (b4_0 : List zO) (b4_1 : List (List Int)) (b4_2 : List Int) (b4_3 : List (List Int)) : Option (Unit ⊕ Int) :=
 bif decide (s8 < s7) then (bif zE s8 s0.length then ((qN4 k (s0.getD s8.toNat (0, 0, 0, 0, 0, 0, 0)).1 (s0.getD s8.toNat (0, 0, 0, 0, 0, 0, 0)).2.1 (s0.getD s8.toNat (0, 0, 0, 0, 0, 0, 0)).2.2.1 (s0.getD s8.toNat (0, 0, 0, 0, 0, 0, 0)).2.2.2.1 (s0.getD s8.toNat (0, 0, 0, 0, 0, 0, 0)).2.2.2.2.1 (s0.getD s8.toNat (0, 0, 0, 0, 0, 0, 0)).2.2.2.2.2.1 (s0.getD s8.toNat (0, 0, 0, 0, 0, 0, 0)).2.2.2.2.2.2 b0_0 b1_0 b1_1 b1_2 b2_0 b2_1 b2_2 b3_0 b4_0 b4_1 b4_2 b4_3).bind fun x0 =>
   bif x0 then some (.inr s8)
   else rec s0 s7 (zA (s8 + 1)) b0_0 b1_0 b1_1 b1_2 b2_0 b2_1 b2_2 b3_0 b4_0 b4_1 b4_2 b4_3)
  else none)
 else some (.inl ())
def zQi (k : Nat) : Nat → qJp
 | 0, _, _, _, _, _, _, _, _, _, _, _, _, _, _, _ => none
 | n + 1, s0, s7, s8, b0_0, b1_0, b1_1, b1_2, b2_0, b2_1, b2_2, b3_0, b4_0, b4_1, b4_2, b4_3 => zL5 k (zQi k n) s0 s7 s8 b0_0 b1_0 b1_1 b1_2 b2_0 b2_1 b2_2 b3_0 b4_0 b4_1 b4_2 b4_3
def qEk (k : Nat) (a0 : List zD) (a1_0 vLt vLu vLv : Int) (a1_2more a1_2spent : List Int) (a1_2sent : List (List Int)) (a1_3 : Int) (vLw : List zO) (vLx : List (List Int)) (vLy : List Int) (vLz : List (List Int)) : Option Int :=
 (zQi k k a0 (a0.length : Int) 0 a1_0 vLt vLu vLv a1_2more a1_2spent a1_2sent a1_3 vLw vLx vLy vLz).bind fun z =>
 match z with
 | .inl z1 => some (-1)
 | .inr z2 => some z2
def qAx (k : Nat) (a0 : List zD) (a1_0 vLt vLu vLv : Int) (a1_2more a1_2spent : List Int) (a1_2sent : List (List Int)) (a1_3 : Int) (vLw : List zO) (vLx : List (List Int)) (vLy : List Int) (vLz : List (List Int)) : Option Bool :=
 (qEk k a0 a1_0 vLt vLu vLv a1_2more a1_2spent a1_2sent a1_3 vLw vLx vLy vLz).bind fun x0 =>
 some (decide (x0 ≥ 0))
abbrev zUx : Type := (List zD) × Int × (List Int) × (List Int) × (List (List Int)) × (List zO) × (List (List Int)) × (List Int) × (List (List Int)) × Int × Int × Int × Int × Int
abbrev qJs : Type := List zD → Int → List Int → Int → Int → List Int → List Int → List (List Int) → List zO → List (List Int) → List Int → List (List Int) → Int → Int → Int → Int → Int → Option zUx
def zKd (k : Nat) (rec : qJs) (s3 : List zD) (s11 : Int) (s39 : List Int) (s40 s41 : Int) (b0_0 b0_1 : List Int) (b0_2 : List (List Int)) (b1_0 : List zO) (b1_1 : List (List Int)) (b1_2 : List Int) (b1_3 : List (List Int)) (b2_0 b3_0 b3_1 b3_2 b4_0 : Int) : Option zUx :=
 bif decide (s41 < s40) then (bif zE s41 s39.length then (rec s3 (zA (s11 + (s39.getD s41.toNat 0))) s39 s40 (zA (s41 + 1)) b0_0 b0_1 b0_2 b1_0 b1_1 b1_2 b1_3 b2_0 b3_0 b3_1 b3_2 b4_0)
  else none)
 else some (s3, s11, b0_0, b0_1, b0_2, b1_0, b1_1, b1_2, b1_3, b2_0, b3_0, b3_1, b3_2, b4_0)
def zIm (k : Nat) : Nat → qJs
 | 0, _, _, _, _, _, _, _, _, _, _, _, _, _, _, _, _, _ => none
 | n + 1, s3, s11, s39, s40, s41, b0_0, b0_1, b0_2, b1_0, b1_1, b1_2, b1_3, b2_0, b3_0, b3_1, b3_2, b4_0 => zKd k (zIm k n) s3 s11 s39 s40 s41 b0_0 b0_1 b0_2 b1_0 b1_1 b1_2 b1_3 b2_0 b3_0 b3_1 b3_2 b4_0
def zT5 (k : Nat) (a0more a0spent : List Int) (a0sent : List (List Int)) (vLe : List zO) (vLf : List (List Int)) (vLg : List Int) (vLh : List (List Int)) (a2 : Int) (a3 : List zD) : Option Bool :=
 bif zE a2 vLe.length then (bif zE a2 a0more.length then (bif decide ((zA ((zA ((vLe.getD a2.toNat (0, 0, 0)).1 + (vLe.getD a2.toNat (0, 0, 0)).2.1)) + (a0more.getD a2.toNat 0))) < 0) then some true
   else (zUt k vLe vLf vLg vLh a2).bind fun x0 =>
   bif zE a2 a0sent.length then ((zIm k k a3 x0 (a0sent.getD a2.toNat []) ((a0sent.getD a2.toNat []).length : Int) 0 a0more a0spent a0sent vLe vLf vLg vLh a2 (vLe.getD a2.toNat (0, 0, 0)).1 (vLe.getD a2.toNat (0, 0, 0)).2.1 (vLe.getD a2.toNat (0, 0, 0)).2.2 (zA ((zA ((vLe.getD a2.toNat (0, 0, 0)).1 + (vLe.getD a2.toNat (0, 0, 0)).2.1)) + (a0more.getD a2.toNat 0)))).bind fun z =>
    bif zE z.2.2.2.2.2.2.2.2.2.1 z.2.2.2.2.2.2.2.1.length then ((zKz k z.2.1 (z.2.2.2.2.2.2.2.1.getD z.2.2.2.2.2.2.2.2.2.1.toNat 0)).bind fun x1 =>
     bif x1 then some true
     else (qAx k z.1 z.2.2.2.2.2.2.2.2.2.1 z.2.2.2.2.2.2.2.2.2.2.1 z.2.2.2.2.2.2.2.2.2.2.2.1 z.2.2.2.2.2.2.2.2.2.2.2.2.1 z.2.2.1 z.2.2.2.1 z.2.2.2.2.1 z.2.2.2.2.2.2.2.2.2.2.2.2.2 z.2.2.2.2.2.1 z.2.2.2.2.2.2.1 z.2.2.2.2.2.2.2.1 z.2.2.2.2.2.2.2.2.1).bind fun x2 =>
     some x2)
    else none)
   else none)
  else none)
 else none
abbrev qO8 : Type := List zD → Int → Int → List zO → List (List Int) → List Int → List (List Int) → List Int → List Int → List (List Int) → List Int → Option (List Int)
def zJ9 (k : Nat) (rec : qO8) (s1 : List zD) (s16 s17 : Int) (b0_0 : List zO) (b0_1 : List (List Int)) (b0_2 : List Int) (b0_3 : List (List Int)) (r2 r3 : List Int) (m4 : List (List Int)) (r5 : List Int) : Option (List Int) :=
 bif decide (s17 < s16) then ((zXg k s1 s17).bind fun x1 =>
  bif x1 then ((zT5 k r2 r3 m4 b0_0 b0_1 b0_2 b0_3 s17 s1).bind fun x2 =>
   bif x2 then (bif qR (r5.length + 1) 8 then (rec s1 s16 (zA (s17 + 1)) b0_0 b0_1 b0_2 b0_3 r2 r3 m4 (r5 ++ [s17]))
    else none)
   else rec s1 s16 (zA (s17 + 1)) b0_0 b0_1 b0_2 b0_3 r2 r3 m4 r5)
  else rec s1 s16 (zA (s17 + 1)) b0_0 b0_1 b0_2 b0_3 r2 r3 m4 r5)
 else some r5
def zN4 (k : Nat) : Nat → qO8
 | 0, _, _, _, _, _, _, _, _, _, _, _ => none
 | n + 1, s1, s16, s17, b0_0, b0_1, b0_2, b0_3, r2, r3, m4, r5 => zJ9 k (zN4 k n) s1 s16 s17 b0_0 b0_1 b0_2 b0_3 r2 r3 m4 r5
def zIa (k : Nat) (vKk : List zO) (vKl : List (List Int)) (vKm : List Int) (vKn : List (List Int)) (a1 : List zD) : Option (List Int) :=
 (zWw k (vKk.length : Int) a1).bind fun x0 =>
 (zN4 k k a1 (vKk.length : Int) 0 vKk vKl vKm vKn x0.1 x0.2.1 x0.2.2 []).bind fun z =>
 some z
def zIj (k : Nat) (vKk : List zO) (vKl : List (List Int)) (vKm : List Int) (vKn : List (List Int)) (a1 : List zD) : Option Bool :=
 bif decide ((a1.length : Int) ≤ 64) then ((zZt k a1 vKk vKl vKm vKn).bind fun x0 =>
  bif !x0 then ((zIa k vKk vKl vKm vKn a1).bind fun x1 =>
   some (decide ((x1.length : Int) = 0)))
  else some false)
 else some false
def qL8 (k : Nat) (vJ6 vJ7 vJ8 vJ9 vKa vKb vKc : Int) (vLe : List zO) (vLf : List (List Int)) (vLg : List Int) (vLh : List (List Int)) : Option Bool :=
 (zOl k vLe vLf vLg vLh vJ6 vJ7 vJ8 vJ9 vKa vKb vKc).bind fun x0 =>
 some (!x0)
abbrev qH7 : Type := List zD → Int → Int → List zO → List (List Int) → List Int → List (List Int) → Option (Unit ⊕ Int)
def zKf (k : Nat) (rec : qH7) (s0 : List zD) (s7 s8 : Int) (b0_0 : List zO) (b0_1 : List (List Int)) (b0_2 : List Int) (b0_3 : List (List Int)) : Option (Unit ⊕ Int) :=
 bif decide (s8 < s7) then (bif zE s8 s0.length then ((qL8 k (s0.getD s8.toNat (0, 0, 0, 0, 0, 0, 0)).1 (s0.getD s8.toNat (0, 0, 0, 0, 0, 0, 0)).2.1 (s0.getD s8.toNat (0, 0, 0, 0, 0, 0, 0)).2.2.1 (s0.getD s8.toNat (0, 0, 0, 0, 0, 0, 0)).2.2.2.1 (s0.getD s8.toNat (0, 0, 0, 0, 0, 0, 0)).2.2.2.2.1 (s0.getD s8.toNat (0, 0, 0, 0, 0, 0, 0)).2.2.2.2.2.1 (s0.getD s8.toNat (0, 0, 0, 0, 0, 0, 0)).2.2.2.2.2.2 b0_0 b0_1 b0_2 b0_3).bind fun x0 =>
   bif x0 then some (.inr s8)
   else rec s0 s7 (zA (s8 + 1)) b0_0 b0_1 b0_2 b0_3)
  else none)
 else some (.inl ())
def zQh (k : Nat) : Nat → qH7
 | 0, _, _, _, _, _, _, _ => none
 | n + 1, s0, s7, s8, b0_0, b0_1, b0_2, b0_3 => zKf k (zQh k n) s0 s7 s8 b0_0 b0_1 b0_2 b0_3
def qEe (k : Nat) (a0 : List zD) (vLi : List zO) (vLj : List (List Int)) (vLk : List Int) (vLl : List (List Int)) : Option Int :=
 (zQh k k a0 (a0.length : Int) 0 vLi vLj vLk vLl).bind fun z =>
 match z with
 | .inl z1 => some (-1)
 | .inr z2 => some z2
def zZc (k : Nat) (a0 : List zD) (vLi : List zO) (vLj : List (List Int)) (vLk : List Int) (vLl : List (List Int)) : Option Bool :=
 (qEe k a0 vLi vLj vLk vLl).bind fun x0 =>
 some (decide (x0 ≥ 0))
def qI7 (k : Nat) (vKo vKp vKq : Int) : Option Bool :=
 (qAg k vKo vKp vKq).bind fun x0 =>
 some (!x0)
abbrev qMb : Type := List zO → Int → Int → Option (Unit ⊕ Int)
def zLu (k : Nat) (rec : qMb) (s0 : List zO) (s7 s8 : Int) : Option (Unit ⊕ Int) :=
 bif decide (s8 < s7) then (bif zE s8 s0.length then ((qI7 k (s0.getD s8.toNat (0, 0, 0)).1 (s0.getD s8.toNat (0, 0, 0)).2.1 (s0.getD s8.toNat (0, 0, 0)).2.2).bind fun x0 =>
   bif x0 then some (.inr s8)
   else rec s0 s7 (zA (s8 + 1)))
  else none)
 else some (.inl ())
def zOs (k : Nat) : Nat → qMb
 | 0, _, _, _ => none
 | n + 1, s0, s7, s8 => zLu k (zOs k n) s0 s7 s8
def qCi (k : Nat) (a0 : List zO) : Option Int :=
 (zOs k k a0 (a0.length : Int) 0).bind fun z =>
 match z with
 | .inl z1 => some (-1)
 | .inr z2 => some z2
def zX3 (k : Nat) (a0 : List zO) : Option Bool :=
 (qCi k a0).bind fun x0 =>
 some (decide (x0 ≥ 0))
def qEr (k : Nat) (a0 : Int) : Option Bool :=
 bif decide (a0 ≥ (-1)) then some (decide (a0 ≤ 2305843009213693952))
 else some false
def qHt (k : Nat) (a0 : Int) : Option Bool :=
 (qEr k a0).bind fun x0 =>
 some (!x0)
abbrev qKd : Type := List Int → Int → Int → Option (Unit ⊕ Int)
def zKt (k : Nat) (rec : qKd) (s0 : List Int) (s7 s8 : Int) : Option (Unit ⊕ Int) :=
 bif decide (s8 < s7) then (bif zE s8 s0.length then ((qHt k (s0.getD s8.toNat 0)).bind fun x0 =>
   bif x0 then some (.inr s8)
   else rec s0 s7 (zA (s8 + 1)))
  else none)
 else some (.inl ())
def zSv (k : Nat) : Nat → qKd
 | 0, _, _, _ => none
 | n + 1, s0, s7, s8 => zKt k (zSv k n) s0 s7 s8
def qHd (k : Nat) (a0 : List Int) : Option Int :=
 (zSv k k a0 (a0.length : Int) 0).bind fun z =>
 match z with
 | .inl z1 => some (-1)
 | .inr z2 => some z2
def zXw (k : Nat) (a0 : List Int) : Option Bool :=
 (qHd k a0).bind fun x0 =>
 some (decide (x0 ≥ 0))
def zSy (k : Nat) (a0 : List Int) (a1 : Int) : Option Bool :=
 bif decide ((a0.length : Int) = a1) then ((zXw k a0).bind fun x0 =>
  some (!x0))
 else some false
abbrev qBk : Type := Int → List (List Int) → Int → Int → Option (Unit ⊕ Bool)
def zM4 (k : Nat) (rec : qBk) (s1 : Int) (s13 : List (List Int)) (s14 s15 : Int) : Option (Unit ⊕ Bool) :=
 bif decide (s15 < s14) then (bif zE s15 s13.length then ((zSy k (s13.getD s15.toNat []) s1).bind fun x0 =>
   bif !x0 then some (.inr false)
   else rec s1 s13 s14 (zA (s15 + 1)))
  else none)
 else some (.inl ())
def zRx (k : Nat) : Nat → qBk
 | 0, _, _, _, _ => none
 | n + 1, s1, s13, s14, s15 => zM4 k (zRx k n) s1 s13 s14 s15
def zTs (k : Nat) (a0 : List (List Int)) (a1 : Int) : Option Bool :=
 bif !(decide ((a0.length : Int) = a1)) then some false
 else (zRx k k a1 a0 (a0.length : Int) 0).bind fun z =>
 match z with
 | .inl z1 => some true
 | .inr z2 => some z2
def zVy (k : Nat) (a0 : Int) : Option Bool :=
 bif decide (a0 > (-72057594037927936)) then some (decide (a0 < 72057594037927936))
 else some false
def qH0 (k : Nat) (a0 : Int) : Option Bool :=
 (zVy k a0).bind fun x0 =>
 some (!x0)
abbrev qDu : Type := List Int → Int → Int → Option (Unit ⊕ Int)
def zK4 (k : Nat) (rec : qDu) (s0 : List Int) (s7 s8 : Int) : Option (Unit ⊕ Int) :=
 bif decide (s8 < s7) then (bif zE s8 s0.length then ((qH0 k (s0.getD s8.toNat 0)).bind fun x0 =>
   bif x0 then some (.inr s8)
   else rec s0 s7 (zA (s8 + 1)))
  else none)
 else some (.inl ())
def zSb (k : Nat) : Nat → qDu
 | 0, _, _, _ => none
 | n + 1, s0, s7, s8 => zK4 k (zSb k n) s0 s7 s8
def qGn (k : Nat) (a0 : List Int) : Option Int :=
 (zSb k k a0 (a0.length : Int) 0).bind fun z =>
 match z with
 | .inl z1 => some (-1)
 | .inr z2 => some z2
def zX2 (k : Nat) (a0 : List Int) : Option Bool :=
 (qGn k a0).bind fun x0 =>
 some (decide (x0 ≥ 0))
def zUr (k : Nat) (a0 : List Int) (a1 : Int) : Option Bool :=
 bif decide ((a0.length : Int) = a1) then ((zX2 k a0).bind fun x0 =>
  some (!x0))
 else some false
abbrev qNt : Type := Int → List (List Int) → Int → Int → Option (Unit ⊕ Bool)
def zMm (k : Nat) (rec : qNt) (s1 : Int) (s13 : List (List Int)) (s14 s15 : Int) : Option (Unit ⊕ Bool) :=
 bif decide (s15 < s14) then (bif zE s15 s13.length then ((zUr k (s13.getD s15.toNat []) s1).bind fun x0 =>
   bif !x0 then some (.inr false)
   else rec s1 s13 s14 (zA (s15 + 1)))
  else none)
 else some (.inl ())
def zSd (k : Nat) : Nat → qNt
 | 0, _, _, _, _ => none
 | n + 1, s1, s13, s14, s15 => zMm k (zSd k n) s1 s13 s14 s15
def zUh (k : Nat) (a0 : List (List Int)) (a1 : Int) : Option Bool :=
 bif !(decide ((a0.length : Int) = a1)) then some false
 else (zSd k k a1 a0 (a0.length : Int) 0).bind fun z =>
 match z with
 | .inl z1 => some true
 | .inr z2 => some z2
abbrev zT4 : Type := ((List (List Int)) × (List (List Int)) × Int × Int) ⊕ Bool
abbrev qFa : Type := List (List Int) → Int → List (List Int) → Int → Int → List Int → Int → Int → Option zT4
def zMl (k : Nat) (rec : qFa) (s0 : List (List Int)) (s3 : Int) (s7 : List (List Int)) (s8 s9 : Int) (s14 : List Int) (s15 s16 : Int) : Option zT4 :=
 bif decide (s16 < s15) then (bif zE s16 s14.length then (bif zE s16 s0.length then (bif zE s3 (s0.getD s16.toNat []).length then (bif !(decide (((s0.getD s16.toNat []).getD s3.toNat 0) = (zA (0 - (s14.getD s16.toNat 0))))) then some (.inr false)
     else rec s0 s3 s7 s8 s9 s14 s15 (zA (s16 + 1)))
    else none)
   else none)
  else none)
 else some (.inl (s0, s7, s8, s9))
def zLh (k : Nat) : Nat → qFa
 | 0, _, _, _, _, _, _, _, _ => none
 | n + 1, s0, s3, s7, s8, s9, s14, s15, s16 => zMl k (zLh k n) s0 s3 s7 s8 s9 s14 s15 s16
abbrev qDh : Type := List (List Int) → List (List Int) → Int → Int → Option (Unit ⊕ Bool)
def zN7 (k : Nat) (rec : qDh) (s0 s7 : List (List Int)) (s8 s9 : Int) : Option (Unit ⊕ Bool) :=
 bif decide (s9 < s8) then (bif zE s9 s7.length then ((zLh k k s0 s9 s7 s8 s9 (s7.getD s9.toNat []) ((s7.getD s9.toNat []).length : Int) 0).bind fun z =>
   match z with
   | .inl z1 => rec z1.1 z1.2.1 z1.2.2.1 (zA (z1.2.2.2 + 1))
   | .inr z2 => some (.inr z2))
  else none)
 else some (.inl ())
def zRy (k : Nat) : Nat → qDh
 | 0, _, _, _, _ => none
 | n + 1, s0, s7, s8, s9 => zN7 k (zRy k n) s0 s7 s8 s9
def zXa (k : Nat) (a0 : List (List Int)) : Option Bool :=
 (zRy k k a0 a0 (a0.length : Int) 0).bind fun z3 =>
 match z3 with
 | .inl z4 => some true
 | .inr z5 => some z5
def zIc (k : Nat) (vKk : List zO) (vKl : List (List Int)) (vKm : List Int) (vKn : List (List Int)) : Option Bool :=
 bif decide ((vKk.length : Int) < 1) then some false
 else bif decide ((vKk.length : Int) > 6) then some false
 else (zX3 k vKk).bind fun x0 =>
 bif x0 then some false
 else (zTs k vKl (vKk.length : Int)).bind fun x1 =>
 bif x1 then ((zSy k vKm (vKk.length : Int)).bind fun x2 =>
  bif x2 then ((zUh k vKn (vKk.length : Int)).bind fun x3 =>
   bif x3 then ((zXa k vKn).bind fun x4 =>
    some x4)
   else some false)
  else some false)
 else some false
abbrev zUn : Type := (List zO) × (List (List Int)) × (List Int) × (List (List Int)) × (List zO) × (List (List Int)) × (List Int) × (List (List Int))
abbrev qJn : Type := List zD → Int → Int → List zO → List (List Int) → List Int → List (List Int) → List zO → List (List Int) → List Int → List (List Int) → Option zUn
def zOb (k : Nat) (rec : qJn) (s24 : List zD) (s25 s26 : Int) (b0_0 : List zO) (b0_1 : List (List Int)) (b0_2 : List Int) (b0_3 : List (List Int)) (r3 : List zO) (m4 : List (List Int)) (r5 : List Int) (m6 : List (List Int)) : Option zUn :=
 bif decide (s26 < s25) then (bif zE s26 s24.length then (bif zE (s24.getD s26.toNat (0, 0, 0, 0, 0, 0, 0)).2.1 r3.length then (bif zE (s24.getD s26.toNat (0, 0, 0, 0, 0, 0, 0)).2.2.1 r3.length then (let y0 : List zO := (r3.set (s24.getD s26.toNat (0, 0, 0, 0, 0, 0, 0)).2.1.toNat ((zA ((r3.getD (s24.getD s26.toNat (0, 0, 0, 0, 0, 0, 0)).2.1.toNat (0, 0, 0)).1 - (s24.getD s26.toNat (0, 0, 0, 0, 0, 0, 0)).2.2.2.1)), (r3.getD (s24.getD s26.toNat (0, 0, 0, 0, 0, 0, 0)).2.1.toNat (0, 0, 0)).2))
     let y1 : List zO := (y0.set (s24.getD s26.toNat (0, 0, 0, 0, 0, 0, 0)).2.2.1.toNat ((zA ((y0.getD (s24.getD s26.toNat (0, 0, 0, 0, 0, 0, 0)).2.2.1.toNat (0, 0, 0)).1 + (s24.getD s26.toNat (0, 0, 0, 0, 0, 0, 0)).2.2.2.1)), (y0.getD (s24.getD s26.toNat (0, 0, 0, 0, 0, 0, 0)).2.2.1.toNat (0, 0, 0)).2))
     bif !(decide ((s24.getD s26.toNat (0, 0, 0, 0, 0, 0, 0)).2.2.2.2.1 = 3)) then ((zFs k (y1.getD (s24.getD s26.toNat (0, 0, 0, 0, 0, 0, 0)).2.1.toNat (0, 0, 0)).1 (y1.getD (s24.getD s26.toNat (0, 0, 0, 0, 0, 0, 0)).2.1.toNat (0, 0, 0)).2.1 (y1.getD (s24.getD s26.toNat (0, 0, 0, 0, 0, 0, 0)).2.1.toNat (0, 0, 0)).2.2 (s24.getD s26.toNat (0, 0, 0, 0, 0, 0, 0)).2.2.2.1).bind fun x2 =>
      let y2 : List zO := (y1.set (s24.getD s26.toNat (0, 0, 0, 0, 0, 0, 0)).2.1.toNat ((y1.getD (s24.getD s26.toNat (0, 0, 0, 0, 0, 0, 0)).2.1.toNat (0, 0, 0)).1, (y1.getD (s24.getD s26.toNat (0, 0, 0, 0, 0, 0, 0)).2.1.toNat (0, 0, 0)).2.1, x2))
      bif zE (s24.getD s26.toNat (0, 0, 0, 0, 0, 0, 0)).2.1 m6.length then (bif zE (s24.getD s26.toNat (0, 0, 0, 0, 0, 0, 0)).2.2.1 (m6.getD (s24.getD s26.toNat (0, 0, 0, 0, 0, 0, 0)).2.1.toNat []).length then (bif zE (s24.getD s26.toNat (0, 0, 0, 0, 0, 0, 0)).2.2.1 (m6.getD (s24.getD s26.toNat (0, 0, 0, 0, 0, 0, 0)).2.1.toNat []).length then (let y3 : List (List Int) := (m6.set (s24.getD s26.toNat (0, 0, 0, 0, 0, 0, 0)).2.1.toNat ((m6.getD (s24.getD s26.toNat (0, 0, 0, 0, 0, 0, 0)).2.1.toNat []).set (s24.getD s26.toNat (0, 0, 0, 0, 0, 0, 0)).2.2.1.toNat (zA (((m6.getD (s24.getD s26.toNat (0, 0, 0, 0, 0, 0, 0)).2.1.toNat []).getD (s24.getD s26.toNat (0, 0, 0, 0, 0, 0, 0)).2.2.1.toNat 0) + (s24.getD s26.toNat (0, 0, 0, 0, 0, 0, 0)).2.2.2.1))))
         bif zE (s24.getD s26.toNat (0, 0, 0, 0, 0, 0, 0)).2.2.1 y3.length then (bif zE (s24.getD s26.toNat (0, 0, 0, 0, 0, 0, 0)).2.1 (y3.getD (s24.getD s26.toNat (0, 0, 0, 0, 0, 0, 0)).2.2.1.toNat []).length then (bif zE (s24.getD s26.toNat (0, 0, 0, 0, 0, 0, 0)).2.1 (y3.getD (s24.getD s26.toNat (0, 0, 0, 0, 0, 0, 0)).2.2.1.toNat []).length then (let y4 : List (List Int) := (y3.set (s24.getD s26.toNat (0, 0, 0, 0, 0, 0, 0)).2.2.1.toNat ((y3.getD (s24.getD s26.toNat (0, 0, 0, 0, 0, 0, 0)).2.2.1.toNat []).set (s24.getD s26.toNat (0, 0, 0, 0, 0, 0, 0)).2.1.toNat (zA (((y3.getD (s24.getD s26.toNat (0, 0, 0, 0, 0, 0, 0)).2.2.1.toNat []).getD (s24.getD s26.toNat (0, 0, 0, 0, 0, 0, 0)).2.1.toNat 0) - (s24.getD s26.toNat (0, 0, 0, 0, 0, 0, 0)).2.2.2.1))))
            rec s24 s25 (zA (s26 + 1)) b0_0 b0_1 b0_2 b0_3 y2 m4 r5 y4)
           else none)
          else none)
         else none)
        else none)
       else none)
      else none)
     else bif zE (s24.getD s26.toNat (0, 0, 0, 0, 0, 0, 0)).2.1 m6.length then (bif zE (s24.getD s26.toNat (0, 0, 0, 0, 0, 0, 0)).2.2.1 (m6.getD (s24.getD s26.toNat (0, 0, 0, 0, 0, 0, 0)).2.1.toNat []).length then (bif zE (s24.getD s26.toNat (0, 0, 0, 0, 0, 0, 0)).2.2.1 (m6.getD (s24.getD s26.toNat (0, 0, 0, 0, 0, 0, 0)).2.1.toNat []).length then (let y5 : List (List Int) := (m6.set (s24.getD s26.toNat (0, 0, 0, 0, 0, 0, 0)).2.1.toNat ((m6.getD (s24.getD s26.toNat (0, 0, 0, 0, 0, 0, 0)).2.1.toNat []).set (s24.getD s26.toNat (0, 0, 0, 0, 0, 0, 0)).2.2.1.toNat (zA (((m6.getD (s24.getD s26.toNat (0, 0, 0, 0, 0, 0, 0)).2.1.toNat []).getD (s24.getD s26.toNat (0, 0, 0, 0, 0, 0, 0)).2.2.1.toNat 0) + (s24.getD s26.toNat (0, 0, 0, 0, 0, 0, 0)).2.2.2.1))))
        bif zE (s24.getD s26.toNat (0, 0, 0, 0, 0, 0, 0)).2.2.1 y5.length then (bif zE (s24.getD s26.toNat (0, 0, 0, 0, 0, 0, 0)).2.1 (y5.getD (s24.getD s26.toNat (0, 0, 0, 0, 0, 0, 0)).2.2.1.toNat []).length then (bif zE (s24.getD s26.toNat (0, 0, 0, 0, 0, 0, 0)).2.1 (y5.getD (s24.getD s26.toNat (0, 0, 0, 0, 0, 0, 0)).2.2.1.toNat []).length then (let y6 : List (List Int) := (y5.set (s24.getD s26.toNat (0, 0, 0, 0, 0, 0, 0)).2.2.1.toNat ((y5.getD (s24.getD s26.toNat (0, 0, 0, 0, 0, 0, 0)).2.2.1.toNat []).set (s24.getD s26.toNat (0, 0, 0, 0, 0, 0, 0)).2.1.toNat (zA (((y5.getD (s24.getD s26.toNat (0, 0, 0, 0, 0, 0, 0)).2.2.1.toNat []).getD (s24.getD s26.toNat (0, 0, 0, 0, 0, 0, 0)).2.1.toNat 0) - (s24.getD s26.toNat (0, 0, 0, 0, 0, 0, 0)).2.2.2.1))))
           rec s24 s25 (zA (s26 + 1)) b0_0 b0_1 b0_2 b0_3 y1 m4 r5 y6)
          else none)
         else none)
        else none)
       else none)
      else none)
     else none)
    else none)
   else none)
  else none)
 else some (b0_0, b0_1, b0_2, b0_3, r3, m4, r5, m6)
def zLy (k : Nat) : Nat → qJn
 | 0, _, _, _, _, _, _, _, _, _, _, _ => none
 | n + 1, s24, s25, s26, b0_0, b0_1, b0_2, b0_3, r3, m4, r5, m6 => zOb k (zLy k n) s24 s25 s26 b0_0 b0_1 b0_2 b0_3 r3 m4 r5 m6
def zDu (k : Nat) (vKk : List zO) (vKl : List (List Int)) (vKm : List Int) (vKn : List (List Int)) (a1 : List zD) : Option ((List zO) × (List (List Int)) × (List Int) × (List (List Int)) × Int) :=
 bif decide ((a1.length : Int) > 64) then some (vKk, vKl, vKm, vKn, 1)
 else (zZc k a1 vKk vKl vKm vKn).bind fun x0 =>
 bif x0 then some (vKk, vKl, vKm, vKn, 1)
 else (jL k vKk vKl vKm vKn).bind fun x1 =>
 (zLy k k a1 (a1.length : Int) 0 vKk vKl vKm vKn x1.1 x1.2.1 x1.2.2.1 x1.2.2.2).bind fun z =>
 (zIc k z.2.2.2.2.1 z.2.2.2.2.2.1 z.2.2.2.2.2.2.1 z.2.2.2.2.2.2.2).bind fun x3 =>
 bif !x3 then some (wD z 8)
 else some (yAe z 0)
abbrev zVc : Type := ((List zO) × (List (List Int)) × (List Int) × (List (List Int)) × Int × Int × Int × Int × Int × Int × Int) ⊕ (Bool × Int × Int × Int × Int × Int × Int × Int × (List zO) × (List (List Int)) × (List Int) × (List (List Int)))
abbrev qP4 : Type := Int → Int → List zO → List (List Int) → List Int → List (List Int) → Int → Int → Int → Int → Int → Int → Int → List zD → Option zVc
def zMu (k : Nat) (rec : qP4) (s16 s17 : Int) (b0_0 : List zO) (b0_1 : List (List Int)) (b0_2 : List Int) (b0_3 : List (List Int)) (b1_0 b1_1 b1_2 b1_3 b1_4 b1_5 b1_6 : Int) (r3 : List zD) : Option zVc :=
 bif decide (s17 < s16) then (bif zE s17 r3.length then ((zIj k b0_0 b0_1 b0_2 b0_3 [(r3.getD s17.toNat (0, 0, 0, 0, 0, 0, 0))]).bind fun x1 =>
   bif !x1 then (rec s16 (zA (s17 + 1)) b0_0 b0_1 b0_2 b0_3 b1_0 b1_1 b1_2 b1_3 b1_4 b1_5 b1_6 r3)
   else (zDu k b0_0 b0_1 b0_2 b0_3 [(r3.getD s17.toNat (0, 0, 0, 0, 0, 0, 0))]).bind fun x2 =>
   bif decide (x2.2.2.2.2 = 0) then some (.inr (true, (zB3 (r3.getD s17.toNat (0, 0, 0, 0, 0, 0, 0)) (zFt x2))))
   else rec s16 (zA (s17 + 1)) b0_0 b0_1 b0_2 b0_3 b1_0 b1_1 b1_2 b1_3 b1_4 b1_5 b1_6 r3)
  else none)
 else some (.inl (b0_0, b0_1, b0_2, b0_3, b1_0, b1_1, b1_2, b1_3, b1_4, b1_5, b1_6))
def zQd (k : Nat) : Nat → qP4
 | 0, _, _, _, _, _, _, _, _, _, _, _, _, _, _ => none
 | n + 1, s16, s17, b0_0, b0_1, b0_2, b0_3, b1_0, b1_1, b1_2, b1_3, b1_4, b1_5, b1_6, r3 => zMu k (zQd k n) s16 s17 b0_0 b0_1 b0_2 b0_3 b1_0 b1_1 b1_2 b1_3 b1_4 b1_5 b1_6 r3
def zSh (k : Nat) (vKk : List zO) (vKl : List (List Int)) (vKm : List Int) (vKn : List (List Int)) (a1 : List zD) (a2 : Int) : Option (Int × Int × Int × Int × Int × Int × Int × (List zO) × (List (List Int)) × (List Int) × (List (List Int)) × Bool) :=
 (zPf k a1 a2).bind fun x0 =>
 (zQd k k (x0.length : Int) 0 vKk vKl vKm vKn 0 0 0 0 0 0 0 x0).bind fun z =>
 match z with
 | .inl z1 => some (0, 0, 0, 0, 0, 0, 0, (wD z1 false))
 | .inr z2 => some (vAe z2 z2.1)
abbrev qAn : Type := (List zD) × (List zO) × (List (List Int)) × (List Int) × (List (List Int)) × (List zD)
abbrev qE7 : Type := Int → List zD → List zO → List (List Int) → List Int → List (List Int) → List zD → Option qAn
def zMi (k : Nat) (rec : qE7) (s2 : Int) (s7 : List zD) (b0_0 : List zO) (b0_1 : List (List Int)) (b0_2 : List Int) (b0_3 : List (List Int)) (r1 : List zD) : Option qAn :=
 (zSh k b0_0 b0_1 b0_2 b0_3 s7 s2).bind fun x0 =>
 bif !x0.2.2.2.2.2.2.2.2.2.2.2 then some (s7, b0_0, b0_1, b0_2, b0_3, r1)
 else (zDv k s7 x0.1).bind fun x1 =>
 bif qR (r1.length + 1) 56 then (let y0 : List zD := (r1 ++ [(zAz x0)])
  rec s2 x1.1 x0.2.2.2.2.2.2.2.1 x0.2.2.2.2.2.2.2.2.1 x0.2.2.2.2.2.2.2.2.2.1 x0.2.2.2.2.2.2.2.2.2.2.1 y0)
 else none
def zRc (k : Nat) : Nat → qE7
 | 0, _, _, _, _, _, _, _ => none
 | n + 1, s2, s7, b0_0, b0_1, b0_2, b0_3, r1 => zMi k (zRc k n) s2 s7 b0_0 b0_1 b0_2 b0_3 r1
def zW2 (k : Nat) (vKk : List zO) (vKl : List (List Int)) (vKm : List Int) (vKn : List (List Int)) (a1 : List zD) (a2 : Int) : Option K7q :=
 (zRc k k a2 a1 vKk vKl vKm vKn []).bind fun z =>
 some (zCs z (z.1, z.2.2.2.2.2))
abbrev zTg : Type := (Int × Int × (List zO) × (List (List Int)) × (List Int) × (List (List Int)) × Int × Int × Int × Int × Int × Int × Int × Int × Int × Int × Int × Int × Int × Int × (List zD)) ⊕ K9q
abbrev qE2 : Type := Int → Int → Int → Int → List zO → List (List Int) → List Int → List (List Int) → Int → Int → Int → Int → Int → Int → Int → Int → Int → Int → Int → Int → Int → Int → List zD → Int → Int → Int → Int → Int → Int → Int → Option zTg
def zNe (k : Nat) (rec : qE2) (s19 s20 s25 s26 : Int) (b0_0 : List zO) (b0_1 : List (List Int)) (b0_2 : List Int) (b0_3 : List (List Int)) (b1_0 b1_1 b1_2 b1_3 b1_4 b1_5 b1_6 b1_7 b1_8 b1_9 b1_10 b1_11 b1_12 b1_13 : Int) (r2 : List zD) (b3_0 b3_1 b3_2 b3_3 b3_4 b3_5 b3_6 : Int) : Option zTg :=
 bif decide (s26 < s25) then (bif zE s26 r2.length then (bif !(decide ((r2.getD s26.toNat (0, 0, 0, 0, 0, 0, 0)).2.1 = b3_2)) then (rec s19 s20 s25 (zA (s26 + 1)) b0_0 b0_1 b0_2 b0_3 b1_0 b1_1 b1_2 b1_3 b1_4 b1_5 b1_6 b1_7 b1_8 b1_9 b1_10 b1_11 b1_12 b1_13 r2 b3_0 b3_1 b3_2 b3_3 b3_4 b3_5 b3_6)
   else bif !(decide ((r2.getD s26.toNat (0, 0, 0, 0, 0, 0, 0)).2.2.1 = b3_1)) then (rec s19 s20 s25 (zA (s26 + 1)) b0_0 b0_1 b0_2 b0_3 b1_0 b1_1 b1_2 b1_3 b1_4 b1_5 b1_6 b1_7 b1_8 b1_9 b1_10 b1_11 b1_12 b1_13 r2 b3_0 b3_1 b3_2 b3_3 b3_4 b3_5 b3_6)
   else bif decide (b3_1 ≥ (r2.getD s26.toNat (0, 0, 0, 0, 0, 0, 0)).2.1) then (rec s19 s20 s25 (zA (s26 + 1)) b0_0 b0_1 b0_2 b0_3 b1_0 b1_1 b1_2 b1_3 b1_4 b1_5 b1_6 b1_7 b1_8 b1_9 b1_10 b1_11 b1_12 b1_13 r2 b3_0 b3_1 b3_2 b3_3 b3_4 b3_5 b3_6)
   else (zIj k b0_0 b0_1 b0_2 b0_3 [(b3_0, b3_1, b3_2, b3_3, b3_4, b3_5, b3_6), (r2.getD s26.toNat (0, 0, 0, 0, 0, 0, 0))]).bind fun x1 =>
   bif !x1 then (rec s19 s20 s25 (zA (s26 + 1)) b0_0 b0_1 b0_2 b0_3 b1_0 b1_1 b1_2 b1_3 b1_4 b1_5 b1_6 b1_7 b1_8 b1_9 b1_10 b1_11 b1_12 b1_13 r2 b3_0 b3_1 b3_2 b3_3 b3_4 b3_5 b3_6)
   else (zDu k b0_0 b0_1 b0_2 b0_3 [(b3_0, b3_1, b3_2, b3_3, b3_4, b3_5, b3_6), (r2.getD s26.toNat (0, 0, 0, 0, 0, 0, 0))]).bind fun x2 =>
   bif decide (x2.2.2.2.2 = 0) then some (.inr (true, b3_0, b3_1, b3_2, b3_3, b3_4, b3_5, b3_6, (zB3 (r2.getD s26.toNat (0, 0, 0, 0, 0, 0, 0)) (zFt x2))))
   else rec s19 s20 s25 (zA (s26 + 1)) b0_0 b0_1 b0_2 b0_3 b1_0 b1_1 b1_2 b1_3 b1_4 b1_5 b1_6 b1_7 b1_8 b1_9 b1_10 b1_11 b1_12 b1_13 r2 b3_0 b3_1 b3_2 b3_3 b3_4 b3_5 b3_6)
  else none)
 else some (.inl (s19, s20, b0_0, b0_1, b0_2, b0_3, b1_0, b1_1, b1_2, b1_3, b1_4, b1_5, b1_6, b1_7, b1_8, b1_9, b1_10, b1_11, b1_12, b1_13, r2))
def zO7 (k : Nat) : Nat → qE2
 | 0, _, _, _, _, _, _, _, _, _, _, _, _, _, _, _, _, _, _, _, _, _, _, _, _, _, _, _, _, _, _ => none
 | n + 1, s19, s20, s25, s26, b0_0, b0_1, b0_2, b0_3, b1_0, b1_1, b1_2, b1_3, b1_4, b1_5, b1_6, b1_7, b1_8, b1_9, b1_10, b1_11, b1_12, b1_13, r2, b3_0, b3_1, b3_2, b3_3, b3_4, b3_5, b3_6 => zNe k (zO7 k n) s19 s20 s25 s26 b0_0 b0_1 b0_2 b0_3 b1_0 b1_1 b1_2 b1_3 b1_4 b1_5 b1_6 b1_7 b1_8 b1_9 b1_10 b1_11 b1_12 b1_13 r2 b3_0 b3_1 b3_2 b3_3 b3_4 b3_5 b3_6
abbrev zVw : Type := (Int × Int × Int × Int × Int × Int × Int × Int × Int × Int × Int × Int × Int × Int) ⊕ K9q
abbrev qNq : Type := Int → Int → List zO → List (List Int) → List Int → List (List Int) → Int → Int → Int → Int → Int → Int → Int → Int → Int → Int → Int → Int → Int → Int → List zD → Option zVw
def zNl (k : Nat) (rec : qNq) (s19 s20 : Int) (b0_0 : List zO) (b0_1 : List (List Int)) (b0_2 : List Int) (b0_3 : List (List Int)) (b1_0 b1_1 b1_2 b1_3 b1_4 b1_5 b1_6 b1_7 b1_8 b1_9 b1_10 b1_11 b1_12 b1_13 : Int) (r2 : List zD) : Option zVw :=
 bif decide (s20 < s19) then (bif zE s20 r2.length then ((zO7 k k s19 s20 (r2.length : Int) 0 b0_0 b0_1 b0_2 b0_3 b1_0 b1_1 b1_2 b1_3 b1_4 b1_5 b1_6 b1_7 b1_8 b1_9 b1_10 b1_11 b1_12 b1_13 r2 (r2.getD s20.toNat (0, 0, 0, 0, 0, 0, 0)).1 (r2.getD s20.toNat (0, 0, 0, 0, 0, 0, 0)).2.1 (r2.getD s20.toNat (0, 0, 0, 0, 0, 0, 0)).2.2.1 (r2.getD s20.toNat (0, 0, 0, 0, 0, 0, 0)).2.2.2.1 (r2.getD s20.toNat (0, 0, 0, 0, 0, 0, 0)).2.2.2.2.1 (r2.getD s20.toNat (0, 0, 0, 0, 0, 0, 0)).2.2.2.2.2.1 (r2.getD s20.toNat (0, 0, 0, 0, 0, 0, 0)).2.2.2.2.2.2).bind fun z =>
   match z with
   | .inl z1 => rec z1.1 (zA (z1.2.1 + 1)) z1.2.2.1 z1.2.2.2.1 z1.2.2.2.2.1 z1.2.2.2.2.2.1 z1.2.2.2.2.2.2.1 z1.2.2.2.2.2.2.2.1 z1.2.2.2.2.2.2.2.2.1 z1.2.2.2.2.2.2.2.2.2.1 z1.2.2.2.2.2.2.2.2.2.2.1 z1.2.2.2.2.2.2.2.2.2.2.2.1 z1.2.2.2.2.2.2.2.2.2.2.2.2.1 z1.2.2.2.2.2.2.2.2.2.2.2.2.2.1 z1.2.2.2.2.2.2.2.2.2.2.2.2.2.2.1 z1.2.2.2.2.2.2.2.2.2.2.2.2.2.2.2.1 z1.2.2.2.2.2.2.2.2.2.2.2.2.2.2.2.2.1 z1.2.2.2.2.2.2.2.2.2.2.2.2.2.2.2.2.2.1 z1.2.2.2.2.2.2.2.2.2.2.2.2.2.2.2.2.2.2.1 z1.2.2.2.2.2.2.2.2.2.2.2.2.2.2.2.2.2.2.2.1 z1.2.2.2.2.2.2.2.2.2.2.2.2.2.2.2.2.2.2.2.2
   | .inr z2 => some (.inr (z2.1, z2.2.1, z2.2.2.1, z2.2.2.2.1, z2.2.2.2.2.1, z2.2.2.2.2.2.1, z2.2.2.2.2.2.2.1, z2.2.2.2.2.2.2.2.1, z2.2.2.2.2.2.2.2.2.1, z2.2.2.2.2.2.2.2.2.2.1, z2.2.2.2.2.2.2.2.2.2.2.1, z2.2.2.2.2.2.2.2.2.2.2.2.1, z2.2.2.2.2.2.2.2.2.2.2.2.2.1, z2.2.2.2.2.2.2.2.2.2.2.2.2.2.1, z2.2.2.2.2.2.2.2.2.2.2.2.2.2.2.1, z2.2.2.2.2.2.2.2.2.2.2.2.2.2.2.2.1, z2.2.2.2.2.2.2.2.2.2.2.2.2.2.2.2.2.1, z2.2.2.2.2.2.2.2.2.2.2.2.2.2.2.2.2.2.1, z2.2.2.2.2.2.2.2.2.2.2.2.2.2.2.2.2.2.2)))
  else none)
 else some (.inl (b1_0, b1_1, b1_2, b1_3, b1_4, b1_5, b1_6, b1_7, b1_8, b1_9, b1_10, b1_11, b1_12, b1_13))
def zR2 (k : Nat) : Nat → qNq
 | 0, _, _, _, _, _, _, _, _, _, _, _, _, _, _, _, _, _, _, _, _, _ => none
 | n + 1, s19, s20, b0_0, b0_1, b0_2, b0_3, b1_0, b1_1, b1_2, b1_3, b1_4, b1_5, b1_6, b1_7, b1_8, b1_9, b1_10, b1_11, b1_12, b1_13, r2 => zNl k (zR2 k n) s19 s20 b0_0 b0_1 b0_2 b0_3 b1_0 b1_1 b1_2 b1_3 b1_4 b1_5 b1_6 b1_7 b1_8 b1_9 b1_10 b1_11 b1_12 b1_13 r2
def qA0 (k : Nat) (vKk : List zO) (vKl : List (List Int)) (vKm : List Int) (vKn : List (List Int)) (a1 : List zD) (a2 : Int) : Option (Int × Int × Int × Int × Int × Int × Int × Int × Int × Int × Int × Int × Int × Int × (List zO) × (List (List Int)) × (List Int) × (List (List Int)) × Bool) :=
 (zPf k a1 a2).bind fun x0 =>
 (zR2 k k (x0.length : Int) 0 vKk vKl vKm vKn 0 0 0 0 0 0 0 0 0 0 0 0 0 0 x0).bind fun z3 =>
 match z3 with
 | .inl z4 => some (0, 0, 0, 0, 0, 0, 0, 0, 0, 0, 0, 0, 0, 0, [], [], [], [], false)
 | .inr z5 => some (qG6 z5 z5.1)
abbrev zV1 : Type := Int × (List zD) × (List zO) × (List (List Int)) × (List Int) × (List (List Int)) × (List zD)
abbrev qOl : Type := Int → List zD → Int → Int → List zO → List (List Int) → List Int → List (List Int) → List zD → List zD → Option zV1
def zGc (k : Nat) (rec : qOl) (s2 : Int) (s7 : List zD) (s34 s35 : Int) (b0_0 : List zO) (b0_1 : List (List Int)) (b0_2 : List Int) (b0_3 : List (List Int)) (r1 r2 : List zD) : Option zV1 :=
 bif decide (s35 < s34) then (bif zE s35 r2.length then ((zDv k s7 (r2.getD s35.toNat (0, 0, 0, 0, 0, 0, 0)).1).bind fun x1 =>
   bif qR (r1.length + 1) 56 then (let y0 : List zD := (r1 ++ [(r2.getD s35.toNat (0, 0, 0, 0, 0, 0, 0))])
    rec s2 x1.1 s34 (zA (s35 + 1)) b0_0 b0_1 b0_2 b0_3 y0 r2)
   else none)
  else none)
 else some (s2, s7, b0_0, b0_1, b0_2, b0_3, r1)
def zE8 (k : Nat) : Nat → qOl
 | 0, _, _, _, _, _, _, _, _, _, _ => none
 | n + 1, s2, s7, s34, s35, b0_0, b0_1, b0_2, b0_3, r1, r2 => zGc k (zE8 k n) s2 s7 s34 s35 b0_0 b0_1 b0_2 b0_3 r1 r2
abbrev zVu : Type := (List zD) × (List zO) × (List (List Int)) × (List Int) × (List (List Int)) × (List zD)
abbrev qKh : Type := Int → List zD → List zO → List (List Int) → List Int → List (List Int) → List zD → Option zVu
def zL1 (k : Nat) (rec : qKh) (s2 : Int) (s7 : List zD) (b0_0 : List zO) (b0_1 : List (List Int)) (b0_2 : List Int) (b0_3 : List (List Int)) (r1 : List zD) : Option zVu :=
 (qA0 k b0_0 b0_1 b0_2 b0_3 s7 s2).bind fun x0 =>
 bif !x0.2.2.2.2.2.2.2.2.2.2.2.2.2.2.2.2.2.2 then some (s7, b0_0, b0_1, b0_2, b0_3, r1)
 else (zE8 k k s2 s7 2 0 x0.2.2.2.2.2.2.2.2.2.2.2.2.2.2.1 x0.2.2.2.2.2.2.2.2.2.2.2.2.2.2.2.1 x0.2.2.2.2.2.2.2.2.2.2.2.2.2.2.2.2.1 x0.2.2.2.2.2.2.2.2.2.2.2.2.2.2.2.2.2.1 r1 [(zAz x0), (yW1 x0)]).bind fun z =>
 rec z.1 z.2.1 z.2.2.1 z.2.2.2.1 z.2.2.2.2.1 z.2.2.2.2.2.1 z.2.2.2.2.2.2
def zPy (k : Nat) : Nat → qKh
 | 0, _, _, _, _, _, _, _ => none
 | n + 1, s2, s7, b0_0, b0_1, b0_2, b0_3, r1 => zL1 k (zPy k n) s2 s7 b0_0 b0_1 b0_2 b0_3 r1
def zTk (k : Nat) (vKk : List zO) (vKl : List (List Int)) (vKm : List Int) (vKn : List (List Int)) (a1 : List zD) (a2 : Int) : Option K7q :=
 (zPy k k a2 a1 vKk vKl vKm vKn []).bind fun z1 =>
 some (zCs z1 (z1.1, z1.2.2.2.2.2))
abbrev zXv : Type := (List zD) × (List zO) × (List (List Int)) × (List Int) × (List (List Int)) × (List zD)
abbrev qBd : Type := Int → List zD → List zO → List (List Int) → List Int → List (List Int) → List zD → Option zXv
def zVz (k : Nat) (rec : qBd) (s2 : Int) (s7 : List zD) (b0_0 : List zO) (b0_1 : List (List Int)) (b0_2 : List Int) (b0_3 : List (List Int)) (r1 : List zD) : Option zXv :=
 (zW2 k b0_0 b0_1 b0_2 b0_3 s7 s2).bind fun x0 =>
 (zTk k x0.1 x0.2.1 x0.2.2.1 x0.2.2.2.1 x0.2.2.2.2.1 s2).bind fun x1 =>
 bif qR (r1.length + x0.2.2.2.2.2.length) 56 then (bif qR ((r1 ++ x0.2.2.2.2.2).length + x1.2.2.2.2.2.length) 56 then (let y0 : List zD := ((r1 ++ x0.2.2.2.2.2) ++ x1.2.2.2.2.2)
   bif decide ((x1.2.2.2.2.2.length : Int) = 0) then some (x1.2.2.2.2.1, (wD x1 y0))
   else rec s2 x1.2.2.2.2.1 x1.1 x1.2.1 x1.2.2.1 x1.2.2.2.1 y0)
  else none)
 else none
def zPz (k : Nat) : Nat → qBd
 | 0, _, _, _, _, _, _, _ => none
 | n + 1, s2, s7, b0_0, b0_1, b0_2, b0_3, r1 => zVz k (zPz k n) s2 s7 b0_0 b0_1 b0_2 b0_3 r1
def zPw (k : Nat) (vKk : List zO) (vKl : List (List Int)) (vKm : List Int) (vKn : List (List Int)) (a1 : List zD) (a2 : Int) : Option K7q :=
 (zPz k k a2 a1 vKk vKl vKm vKn []).bind fun z =>
 some (zCs z (z.1, z.2.2.2.2.2))
def qB4 (k : Nat) (a0 : List Int) : Option (List Int) :=
 bif qR (0 + a0.length) 8 then some a0
 else none
def qHo (k : Nat) (vJ6 vJ7 vJ8 vJ9 vKa vKb vKc : Int) (a1 : List Int) : Option (Bool × (List Int)) :=
 bif decide (vJ7 < 0) then some (false, a1)
 else bif decide (vJ7 ≥ (a1.length : Int)) then some (false, a1)
 else bif zE vJ7 a1.length then (bif decide ((a1.getD vJ7.toNat 0) < 1) then some (false, a1)
  else bif zE vJ7 a1.length then (bif zE vJ7 a1.length then some (true, (a1.set vJ7.toNat (zA ((a1.getD vJ7.toNat 0) - 1))))
   else none)
  else none)
 else none
abbrev zVj : Type := (List Int) × (List zD)
abbrev qNl : Type := List zD → Int → Int → List Int → List zD → Option zVj
def zLb (k : Nat) (rec : qNl) (s8 : List zD) (s9 s10 : Int) (r1 : List Int) (r2 : List zD) : Option zVj :=
 bif decide (s10 < s9) then (bif zE s10 s8.length then ((qHo k (s8.getD s10.toNat (0, 0, 0, 0, 0, 0, 0)).1 (s8.getD s10.toNat (0, 0, 0, 0, 0, 0, 0)).2.1 (s8.getD s10.toNat (0, 0, 0, 0, 0, 0, 0)).2.2.1 (s8.getD s10.toNat (0, 0, 0, 0, 0, 0, 0)).2.2.2.1 (s8.getD s10.toNat (0, 0, 0, 0, 0, 0, 0)).2.2.2.2.1 (s8.getD s10.toNat (0, 0, 0, 0, 0, 0, 0)).2.2.2.2.2.1 (s8.getD s10.toNat (0, 0, 0, 0, 0, 0, 0)).2.2.2.2.2.2 r1).bind fun x0 =>
   bif x0.1 then (bif qR (r2.length + 1) 56 then (let y0 : List zD := (r2 ++ [(s8.getD s10.toNat (0, 0, 0, 0, 0, 0, 0))])
     rec s8 s9 (zA (s10 + 1)) x0.2 y0)
    else none)
   else rec s8 s9 (zA (s10 + 1)) x0.2 r2)
  else none)
 else some (r1, r2)
def zJ5 (k : Nat) : Nat → qNl
 | 0, _, _, _, _, _ => none
 | n + 1, s8, s9, s10, r1, r2 => zLb k (zJ5 k n) s8 s9 s10 r1 r2
def qFc (k : Nat) (a0 : List zD) (a1_0 : List Int) : Option ((List zD) × (List Int)) :=
 (zJ5 k k a0 (a0.length : Int) 0 a1_0 []).bind fun z =>
 some (z.2, z.1)
def zNh (k : Nat) (a0 : List zD) (a1 : List Int) : Option (List zD) :=
 (qB4 k a1).bind fun x0 =>
 (qFc k a0 x0).bind fun x1 =>
 some x1.1
abbrev zUk : Type := Int × (List zO) × (List (List Int)) × (List Int) × (List (List Int)) × (List Int) × (List zD)
abbrev qKi : Type := Int → Int → Int → List zO → List (List Int) → List Int → List (List Int) → List Int → List zD → Option zUk
def zLj (k : Nat) (rec : qKi) (s7 s18 s19 : Int) (b0_0 : List zO) (b0_1 : List (List Int)) (b0_2 : List Int) (b0_3 : List (List Int)) (r1 : List Int) (r2 : List zD) : Option zUk :=
 bif decide (s19 < s18) then ((zP7 k r2 s19).bind fun x1 =>
  bif qR (r1.length + 1) 8 then (rec s7 s18 (zA (s19 + 1)) b0_0 b0_1 b0_2 b0_3 (r1 ++ [(x1.length : Int)]) r2)
  else none)
 else some (s7, b0_0, b0_1, b0_2, b0_3, r1, r2)
def zHi (k : Nat) : Nat → qKi
 | 0, _, _, _, _, _, _, _, _, _ => none
 | n + 1, s7, s18, s19, b0_0, b0_1, b0_2, b0_3, r1, r2 => zLj k (zHi k n) s7 s18 s19 b0_0 b0_1 b0_2 b0_3 r1 r2
abbrev zS5 : Type := Int × (List zO) × (List (List Int)) × (List Int) × (List (List Int)) × (List Int) × (List zD)
abbrev qGy : Type := Int → Int → Int → List zO → List (List Int) → List Int → List (List Int) → List Int → List zD → List Int → Option zS5
def zOj (k : Nat) (rec : qGy) (s7 s43 s44 : Int) (b0_0 : List zO) (b0_1 : List (List Int)) (b0_2 : List Int) (b0_3 : List (List Int)) (r1 : List Int) (r2 : List zD) (r3 : List Int) : Option zS5 :=
 bif decide (s44 < s43) then (bif zE s44 r3.length then (bif zE (r3.getD s44.toNat 0) r1.length then (bif zE (r3.getD s44.toNat 0) r1.length then (let y0 : List Int := (r1.set (r3.getD s44.toNat 0).toNat (zA ((r1.getD (r3.getD s44.toNat 0).toNat 0) - 1)))
     rec s7 s43 (zA (s44 + 1)) b0_0 b0_1 b0_2 b0_3 y0 r2 r3)
    else none)
   else none)
  else none)
 else some (s7, b0_0, b0_1, b0_2, b0_3, r1, r2)
def zMj (k : Nat) : Nat → qGy
 | 0, _, _, _, _, _, _, _, _, _, _ => none
 | n + 1, s7, s43, s44, b0_0, b0_1, b0_2, b0_3, r1, r2, r3 => zOj k (zMj k n) s7 s43 s44 b0_0 b0_1 b0_2 b0_3 r1 r2 r3
abbrev qPv : Type := Int → List zO → List (List Int) → List Int → List (List Int) → List Int → List zD → Option (Int × (List Int))
def zM7 (k : Nat) (rec : qPv) (s7 : Int) (b0_0 : List zO) (b0_1 : List (List Int)) (b0_2 : List Int) (b0_3 : List (List Int)) (r1 : List Int) (r2 : List zD) : Option (Int × (List Int)) :=
 (zNh k r2 r1).bind fun x2 =>
 (zIa k b0_0 b0_1 b0_2 b0_3 x2).bind fun x3 =>
 bif decide ((x3.length : Int) = 0) then some ((zA (s7 + 1)), r1)
 else (zMj k k (zA (s7 + 1)) (x3.length : Int) 0 b0_0 b0_1 b0_2 b0_3 r1 r2 x3).bind fun z1 =>
 rec z1.1 z1.2.1 z1.2.2.1 z1.2.2.2.1 z1.2.2.2.2.1 z1.2.2.2.2.2.1 z1.2.2.2.2.2.2
def zRl (k : Nat) : Nat → qPv
 | 0, _, _, _, _, _, _, _ => none
 | n + 1, s7, b0_0, b0_1, b0_2, b0_3, r1, r2 => zM7 k (zRl k n) s7 b0_0 b0_1 b0_2 b0_3 r1 r2
def zYq (k : Nat) (vKk : List zO) (vKl : List (List Int)) (vKm : List Int) (vKn : List (List Int)) (a1 : List zD) (a2 : Int) : Option ((List Int) × Int) :=
 (zL7 k a1 a2).bind fun x0 =>
 (zHi k k 0 (vKk.length : Int) 0 vKk vKl vKm vKn [] x0).bind fun z =>
 (zRl k k z.1 z.2.1 z.2.2.1 z.2.2.2.1 z.2.2.2.2.1 z.2.2.2.2.2.1 z.2.2.2.2.2.2).bind fun z2 =>
 some (z2.2, z2.1)
abbrev zTo : Type := (List zD) × (List zO) × (List (List Int)) × (List Int) × (List (List Int)) × (List zD)
abbrev qO1 : Type := List zD → Int → Int → List zO → List (List Int) → List Int → List (List Int) → List zD → Option zTo
def zM8 (k : Nat) (rec : qO1) (s7 : List zD) (s39 s40 : Int) (b0_0 : List zO) (b0_1 : List (List Int)) (b0_2 : List Int) (b0_3 : List (List Int)) (r1 : List zD) : Option zTo :=
 bif decide (s40 < s39) then (bif zE s40 r1.length then ((zDv k s7 (r1.getD s40.toNat (0, 0, 0, 0, 0, 0, 0)).1).bind fun x4 =>
   rec x4.1 s39 (zA (s40 + 1)) b0_0 b0_1 b0_2 b0_3 r1)
  else none)
 else some (s7, b0_0, b0_1, b0_2, b0_3, r1)
def zHe (k : Nat) : Nat → qO1
 | 0, _, _, _, _, _, _, _, _ => none
 | n + 1, s7, s39, s40, b0_0, b0_1, b0_2, b0_3, r1 => zM8 k (zHe k n) s7 s39 s40 b0_0 b0_1 b0_2 b0_3 r1
def zKb (k : Nat) (vKk : List zO) (vKl : List (List Int)) (vKm : List Int) (vKn : List (List Int)) (a1 : List zD) (a2 : Int) : Option K7q :=
 (zYq k vKk vKl vKm vKn a1 a2).bind fun x0 =>
 (zL7 k a1 a2).bind fun x1 =>
 (zNh k x1 x0.1).bind fun x2 =>
 (zDu k vKk vKl vKm vKn x2).bind fun x3 =>
 bif !(decide (x3.2.2.2.2 = 0)) then some (vKk, vKl, vKm, vKn, a1, [])
 else (zHe k k a1 (x2.length : Int) 0 x3.1 x3.2.1 x3.2.2.1 x3.2.2.2.1 x2).bind fun z =>
 some (zCs z (z.1, z.2.2.2.2.2))
def zHx (k : Nat) (vKk : List zO) (vKl : List (List Int)) (vKm : List Int) (vKn : List (List Int)) (a1 : List zD) (a2 : Int) (a3 : Bool) : Option K7q :=
 (zPw k vKk vKl vKm vKn a1 a2).bind fun x0 =>
 bif !a3 then some (x0.1, x0.2.1, x0.2.2.1, x0.2.2.2.1, x0.2.2.2.2.1, x0.2.2.2.2.2)
 else (zKb k x0.1 x0.2.1 x0.2.2.1 x0.2.2.2.1 x0.2.2.2.2.1 a2).bind fun x1 =>
 bif decide ((x1.2.2.2.2.2.length : Int) = 0) then some (zPt x1 x0.2.2.2.2.2)
 else (zPw k x1.1 x1.2.1 x1.2.2.1 x1.2.2.2.1 x1.2.2.2.2.1 a2).bind fun x2 =>
 bif qR (x0.2.2.2.2.2.length + x1.2.2.2.2.2.length) 56 then (bif qR ((x0.2.2.2.2.2 ++ x1.2.2.2.2.2).length + x2.2.2.2.2.2.length) 56 then (let y0 : List zD := ((x0.2.2.2.2.2 ++ x1.2.2.2.2.2) ++ x2.2.2.2.2.2)
   some (zPt x2 y0))
  else none)
 else none
abbrev zUs : Type := (List zD) × Int × Int × (List yP)
abbrev qGw : Type := List zD → Int → Int → Int → Int → List yP → Int → Int → Int → Int → Int → Int → Int → List Int → Option zUs
def zGh (k : Nat) (rec : qGw) (s8 : List zD) (s9 s10 s19 s20 : Int) (r0 : List yP) (b1_0 b1_1 b1_2 b1_3 b1_4 b1_5 b1_6 : Int) (r2 : List Int) : Option zUs :=
 bif decide (s20 < s19) then (bif zE s20 r2.length then ((zC8 k (r2.getD s20.toNat 0) 18 [b1_0, b1_1, b1_2, b1_3]).bind fun x0 =>
   bif qR (r0.length + 1) 64 then (rec s8 s9 s10 s19 (zA (s20 + 1)) (r0 ++ [x0]) b1_0 b1_1 b1_2 b1_3 b1_4 b1_5 b1_6 r2)
   else none)
  else none)
 else some (s8, s9, s10, r0)
def zGw (k : Nat) : Nat → qGw
 | 0, _, _, _, _, _, _, _, _, _, _, _, _, _, _ => none
 | n + 1, s8, s9, s10, s19, s20, r0, b1_0, b1_1, b1_2, b1_3, b1_4, b1_5, b1_6, r2 => zGh k (zGw k n) s8 s9 s10 s19 s20 r0 b1_0 b1_1 b1_2 b1_3 b1_4 b1_5 b1_6 r2
abbrev zYr : Type := List yP
abbrev qN2 : Type := List zD → Int → Int → List yP → Option zYr
def zKg (k : Nat) (rec : qN2) (s8 : List zD) (s9 s10 : Int) (r0 : List yP) : Option zYr :=
 bif decide (s10 < s9) then (bif zE s10 s8.length then ((zGw k k s8 s9 s10 2 0 r0 (s8.getD s10.toNat (0, 0, 0, 0, 0, 0, 0)).1 (s8.getD s10.toNat (0, 0, 0, 0, 0, 0, 0)).2.1 (s8.getD s10.toNat (0, 0, 0, 0, 0, 0, 0)).2.2.1 (s8.getD s10.toNat (0, 0, 0, 0, 0, 0, 0)).2.2.2.1 (s8.getD s10.toNat (0, 0, 0, 0, 0, 0, 0)).2.2.2.2.1 (s8.getD s10.toNat (0, 0, 0, 0, 0, 0, 0)).2.2.2.2.2.1 (s8.getD s10.toNat (0, 0, 0, 0, 0, 0, 0)).2.2.2.2.2.2 [(s8.getD s10.toNat (0, 0, 0, 0, 0, 0, 0)).2.1, (s8.getD s10.toNat (0, 0, 0, 0, 0, 0, 0)).2.2.1]).bind fun z =>
   rec z.1 z.2.1 (zA (z.2.2.1 + 1)) z.2.2.2)
  else none)
 else some r0
def zNz (k : Nat) : Nat → qN2
 | 0, _, _, _, _ => none
 | n + 1, s8, s9, s10, r0 => zKg k (zNz k n) s8 s9 s10 r0
def zT8 (k : Nat) (a0 : List zD) : Option (List yP) :=
 (zNz k k a0 (a0.length : Int) 0 []).bind fun z1 =>
 some z1
def zE1 (k : Nat) (vKw : Int) (vKx : List zO) (vKy : List (List Int)) (vKz : List Int) (vK0 : List (List Int)) (vK1 : List Int) (vK2 : List (List Int)) (vK3 : List zD) (vK4 : List Int) (vK5 : Int) (vK6 a1 : Bool) : Option qF7 :=
 (zHx k vKx vKy vKz vK0 vK3 vKw a1).bind fun x0 =>
 (zT8 k x0.2.2.2.2.2).bind fun x1 =>
 some (vKw, (wD x0 (vK1, vK2, x0.2.2.2.2.1, vK4, vK5, vK6, x1)))
abbrev qAy : Type := Int × (List vQ) × Int × Int × Int × Int × (List zO) × (List (List Int)) × (List Int) × (List (List Int)) × (List Int) × (List (List Int)) × (List zD) × (List Int) × Int × Bool × Int × Int × Bool × (List yP) × (List zD)
abbrev qDc : Type := List zD → Int → Int → Int → List vQ → Int → Int → Int → Int → List zO → List (List Int) → List Int → List (List Int) → List Int → List (List Int) → List zD → List Int → Int → Bool → Int → Int → Bool → List yP → List zD → Option qAy
def zOe (k : Nat) (rec : qDc) (s27 : List zD) (s28 s29 b0_0 : Int) (b0_1 : List vQ) (b0_2 b0_3 b0_4 b1_0 : Int) (b1_1 : List zO) (b1_2 : List (List Int)) (b1_3 : List Int) (b1_4 : List (List Int)) (b1_5 : List Int) (b1_6 : List (List Int)) (b1_7 : List zD) (b1_8 : List Int) (b1_9 : Int) (b1_10 : Bool) (b2_0 b2_9 : Int) (b2_10 : Bool) (r3 : List yP) (r4 : List zD) : Option qAy :=
 bif decide (s29 < s28) then (bif zE s29 s27.length then ((qO0 k (s27.getD s29.toNat (0, 0, 0, 0, 0, 0, 0)).1 (s27.getD s29.toNat (0, 0, 0, 0, 0, 0, 0)).2.1 (s27.getD s29.toNat (0, 0, 0, 0, 0, 0, 0)).2.2.1 (s27.getD s29.toNat (0, 0, 0, 0, 0, 0, 0)).2.2.2.1 (s27.getD s29.toNat (0, 0, 0, 0, 0, 0, 0)).2.2.2.2.1 (s27.getD s29.toNat (0, 0, 0, 0, 0, 0, 0)).2.2.2.2.2.1 (s27.getD s29.toNat (0, 0, 0, 0, 0, 0, 0)).2.2.2.2.2.2 b1_0).bind fun x2 =>
   bif x2 then ((zC8 k (s27.getD s29.toNat (0, 0, 0, 0, 0, 0, 0)).2.1 21 [(s27.getD s29.toNat (0, 0, 0, 0, 0, 0, 0)).1]).bind fun x3 =>
    bif qR (r3.length + 1) 64 then (rec s27 s28 (zA (s29 + 1)) b0_0 b0_1 b0_2 b0_3 b0_4 b1_0 b1_1 b1_2 b1_3 b1_4 b1_5 b1_6 b1_7 b1_8 b1_9 b1_10 b2_0 b2_9 b2_10 (r3 ++ [x3]) r4)
    else none)
   else bif qR (r4.length + 1) 56 then (let y0 : List zD := (r4 ++ [(s27.getD s29.toNat (0, 0, 0, 0, 0, 0, 0))])
    rec s27 s28 (zA (s29 + 1)) b0_0 b0_1 b0_2 b0_3 b0_4 b1_0 b1_1 b1_2 b1_3 b1_4 b1_5 b1_6 b1_7 b1_8 b1_9 b1_10 b2_0 b2_9 b2_10 r3 y0)
   else none)
  else none)
 else some (b0_0, b0_1, b0_2, b0_3, b0_4, b1_0, b1_1, b1_2, b1_3, b1_4, b1_5, b1_6, b1_7, b1_8, b1_9, b1_10, b2_0, b2_9, b2_10, r3, r4)
def zOk (k : Nat) : Nat → qDc
 | 0, _, _, _, _, _, _, _, _, _, _, _, _, _, _, _, _, _, _, _, _, _, _, _, _ => none
 | n + 1, s27, s28, s29, b0_0, b0_1, b0_2, b0_3, b0_4, b1_0, b1_1, b1_2, b1_3, b1_4, b1_5, b1_6, b1_7, b1_8, b1_9, b1_10, b2_0, b2_9, b2_10, r3, r4 => zOe k (zOk k n) s27 s28 s29 b0_0 b0_1 b0_2 b0_3 b0_4 b1_0 b1_1 b1_2 b1_3 b1_4 b1_5 b1_6 b1_7 b1_8 b1_9 b1_10 b2_0 b2_9 b2_10 r3 r4
def zJy (k : Nat) (vKr : Int) (vKs : List vQ) (vKt vKu vKv vL0 : Int) (vL1 : List zO) (vL2 : List (List Int)) (vL3 : List Int) (vL4 : List (List Int)) (vL5 : List Int) (vL6 : List (List Int)) (vL7 : List zD) (vL8 : List Int) (vL9 : Int) (vMa : Bool) : Option qF7 :=
 bif vMa then some (vL0, vL1, vL2, vL3, vL4, vL5, vL6, vL7, vL8, vL9, vMa, [])
 else (zNy k vKr vKs vKt vKu vKv (zA (vL0 + 1))).bind fun x0 =>
 bif x0 then ((qAf k (zA (vL0 + 1)) vL1 vL2 vL3 vL4 vL5 vL6 vL7 vL8 vL9 vMa).bind fun x1 =>
  some (x1.1, x1.2.1, x1.2.2.1, x1.2.2.2.1, x1.2.2.2.2.1, x1.2.2.2.2.2.1, x1.2.2.2.2.2.2.1, x1.2.2.2.2.2.2.2.1, x1.2.2.2.2.2.2.2.2.1, x1.2.2.2.2.2.2.2.2.2.1, x1.2.2.2.2.2.2.2.2.2.2.1, x1.2.2.2.2.2.2.2.2.2.2.2))
 else (zOk k k vL7 (vL7.length : Int) 0 vKr vKs vKt vKu vKv (zA (vL0 + 1)) vL1 vL2 vL3 vL4 vL5 vL6 vL7 vL8 vL9 vMa 0 0 false [] []).bind fun z =>
 (qA3 k z.1 z.2.1 z.2.2.1 z.2.2.2.1 z.2.2.2.2.1 z.2.2.2.2.2.1).bind fun x4 =>
 (zE1 k z.2.2.2.2.2.1 z.2.2.2.2.2.2.1 z.2.2.2.2.2.2.2.1 z.2.2.2.2.2.2.2.2.1 z.2.2.2.2.2.2.2.2.2.1 z.2.2.2.2.2.2.2.2.2.2.1 z.2.2.2.2.2.2.2.2.2.2.2.1 z.2.2.2.2.2.2.2.2.2.2.2.2.2.2.2.2.2.2.2.2 z.2.2.2.2.2.2.2.2.2.2.2.2.2.1 z.2.2.2.2.2.2.2.2.2.2.2.2.2.2.1 z.2.2.2.2.2.2.2.2.2.2.2.2.2.2.2.1 x4).bind fun x5 =>
 bif qR (z.2.2.2.2.2.2.2.2.2.2.2.2.2.2.2.2.2.2.2.1.length + x5.2.2.2.2.2.2.2.2.2.2.2.length) 64 then (let y1 : List yP := (z.2.2.2.2.2.2.2.2.2.2.2.2.2.2.2.2.2.2.2.1 ++ x5.2.2.2.2.2.2.2.2.2.2.2)
  some (zFu x5 y1))
 else none
def yB5 (k : Nat) (a0 : zA8) (a1 : (Int × Int × Int × Int × Int × Int)) : Option (Int × wJ) :=
 (yQ k a1.2.1 0 (zA (a0.1 - 1))).bind fun x0 =>
 bif !x0 then some (1, (yT a0 []))
 else (yQ k a1.2.2.2.1 1 3).bind fun x1 =>
 bif !x1 then some (1, (yT a0 []))
 else (zJo k (vA a0) a0.2.2.2.2.2.1 (a1.1, a0.2.2.2.2.2.2.2.2.2.2.2.2.2.2.2.2, a1.2)).bind fun x2 =>
 bif !(decide (x2 = 0)) then some (x2, (yT a0 []))
 else (zKv k a0.2.2.2.2.2.2.2.2.2.2.2.2.2.1 a1.1).bind fun x3 =>
 bif !(decide (x3.2 = 0)) then some (x3.2, (yT a0 []))
 else (zF2 k a0.2.2.2.2.2.2.2.2.2.2.2.2.1 (a1.1, a0.2.2.2.2.2.2.2.2.2.2.2.2.2.2.2.2, a1.2)).bind fun x4 =>
 bif !(decide (x4.2 = 0)) then some (x4.2, (yT a0 []))
 else some (0, (zDd a0 (x4.1, x3.1, a0.2.2.2.2.2.2.2.2.2.2.2.2.2.2.1, a0.2.2.2.2.2.2.2.2.2.2.2.2.2.2.2.1, a0.2.2.2.2.2.2.2.2.2.2.2.2.2.2.2.2, [])))
def zYk (k : Nat) (a0 : zA8) (a1 : zD) : Option (Int × wJ) :=
 (qP5 k (yT a0 []) a1.2.1).bind fun x0 =>
 bif !(decide (x0.2 = 0)) then some (x0.2, (yT a0 []))
 else bif decide (a1.1 = 2) then ((zDv k a0.2.2.2.2.2.2.2.2.2.2.2.2.1 a1.2.1).bind fun x1 =>
  (zZw k (zDd a0 (x1.1, a0.2.2.2.2.2.2.2.2.2.2.2.2.2)) 20 [a1.2.1]).bind fun x2 =>
  some (x1.2.2.2.2.2.2.2.2, x2))
 else bif decide (a1.1 = 4) then ((yQ k a1.2.2.1 1 3).bind fun x3 =>
  bif !x3 then some (1, (yT a0 []))
  else (zHh k (vA a0) a0.2.2.2.2.2.1 a1.2.2.1).bind fun x4 =>
  bif !(decide (x4 = 0)) then some (x4, (yT a0 []))
  else (zJ7 k a0.2.2.2.2.2.2.2.2.2.2.2.2.1 a1.2.1 a1.2.2.1).bind fun x5 =>
  some (x5.2, (zDd a0 (x5.1, (qC8 a0 [])))))
 else bif decide (a1.2.2.1 = 0) then ((zKl k a0.2.2.2.2.2.2.2.2.2.2.2.2.1 a1.2.1).bind fun x6 =>
  some (x6.2, (zDd a0 (x6.1, (qC8 a0 [])))))
 else bif decide (a1.2.2.1 = 1) then ((zOf k a0.2.2.2.2.2.2.2.2.2.2.2.2.1 a1.2.1).bind fun x7 =>
  some (x7.2, (zDd a0 (x7.1, (qC8 a0 [])))))
 else some (1, (yT a0 []))
def zWo (k : Nat) (a0 : zA8) (a1 : zD) : Option (Int × wJ) :=
 (jL k a0.2.2.2.2.2.2.1 a0.2.2.2.2.2.2.2.1 a0.2.2.2.2.2.2.2.2.1 a0.2.2.2.2.2.2.2.2.2.1).bind fun x0 =>
 bif decide (a1.1 = 5) then ((qPb k (yT a0 []) a1.2.1).bind fun x1 =>
  bif !x1 then some (1, (yT a0 []))
  else (yQ k a1.2.2.1 (-1) 1152921504606846976).bind fun x2 =>
  bif !x2 then some (1, (yT a0 []))
  else bif zE a0.2.2.2.2.2.2.2.2.2.2.2.2.2.2.2.2 x0.2.1.length then (bif zE a1.2.1 (x0.2.1.getD a0.2.2.2.2.2.2.2.2.2.2.2.2.2.2.2.2.toNat []).length then (let y0 : List (List Int) := (x0.2.1.set a0.2.2.2.2.2.2.2.2.2.2.2.2.2.2.2.2.toNat ((x0.2.1.getD a0.2.2.2.2.2.2.2.2.2.2.2.2.2.2.2.2.toNat []).set a1.2.1.toNat a1.2.2.1))
    some (0, (zAr a0 (x0.1, y0, x0.2.2.1, x0.2.2.2, (qIf a0 [])))))
   else none)
  else none)
 else bif decide (a1.1 = 6) then ((yQ k a1.2.1 (-1) 1152921504606846976).bind fun x3 =>
  bif !x3 then some (1, (yT a0 []))
  else bif zE a0.2.2.2.2.2.2.2.2.2.2.2.2.2.2.2.2 x0.2.2.1.length then (let y1 : List Int := (x0.2.2.1.set a0.2.2.2.2.2.2.2.2.2.2.2.2.2.2.2.2.toNat a1.2.1)
   some (0, (zAr a0 (x0.1, x0.2.1, y1, x0.2.2.2, (qIf a0 [])))))
  else none)
 else (yQ k a1.2.1 0 1152921504606846976).bind fun x4 =>
 bif !x4 then some (1, (yT a0 []))
 else bif zE a0.2.2.2.2.2.2.2.2.2.2.2.2.2.2.2.2 x0.1.length then (let y2 : List zO := (x0.1.set a0.2.2.2.2.2.2.2.2.2.2.2.2.2.2.2.2.toNat ((x0.1.getD a0.2.2.2.2.2.2.2.2.2.2.2.2.2.2.2.2.toNat (0, 0, 0)).1, (x0.1.getD a0.2.2.2.2.2.2.2.2.2.2.2.2.2.2.2.2.toNat (0, 0, 0)).2.1, a1.2.1))
  some (0, (zAr a0 (y2, x0.2.1, x0.2.2.1, x0.2.2.2, (qIf a0 [])))))
 else none
def qYj (k : Nat) (a0 : zA8) (a1 a2 : Int) : Option (Int × wJ) :=
 (zPh k (yT a0 []) a1).bind fun x0 =>
 bif !x0 then some (1, (yT a0 []))
 else (yQ k a2 0 1099511627776).bind fun x1 =>
 bif !x1 then some (1, (yT a0 []))
 else (zJg k a0.2.2.2.2.2.2.2.2.2.2.2.1).bind fun x2 =>
 bif zE a0.2.2.2.2.2.2.2.2.2.2.2.2.2.2.2.2 x2.length then ((zDj k (x2.getD a0.2.2.2.2.2.2.2.2.2.2.2.2.2.2.2.2.toNat []) a1 a2).bind fun x3 =>
  bif zE a0.2.2.2.2.2.2.2.2.2.2.2.2.2.2.2.2 x2.length then (let y0 : List (List Int) := (x2.set a0.2.2.2.2.2.2.2.2.2.2.2.2.2.2.2.2.toNat x3)
   bif zE a0.2.2.2.2.2.2.2.2.2.2.2.2.2.2.2.2 y0.length then ((zEh k a0.2.1 a0.2.2.2.2.2.2.2.2.2.2.1 (y0.getD a0.2.2.2.2.2.2.2.2.2.2.2.2.2.2.2.2.toNat [])).bind fun x4 =>
    bif zE a0.2.2.2.2.2.2.2.2.2.2.2.2.2.2.2.2 a0.2.2.2.2.2.2.1.length then (bif !x4.2 then some (8, (yT a0 []))
     else bif decide (x4.1 > 1152921504606846976) then some (8, (yT a0 []))
     else bif decide (x4.1 < (a0.2.2.2.2.2.2.1.getD a0.2.2.2.2.2.2.2.2.2.2.2.2.2.2.2.2.toNat (0, 0, 0)).2.1) then (bif decide ((zA ((a0.2.2.2.2.2.2.1.getD a0.2.2.2.2.2.2.2.2.2.2.2.2.2.2.2.2.toNat (0, 0, 0)).1 + x4.1)) < 0) then some (9, (yT a0 []))
      else (jL k a0.2.2.2.2.2.2.1 a0.2.2.2.2.2.2.2.1 a0.2.2.2.2.2.2.2.2.1 a0.2.2.2.2.2.2.2.2.2.1).bind fun x5 =>
      bif zE a0.2.2.2.2.2.2.2.2.2.2.2.2.2.2.2.2 x5.1.length then (let y1 : List zO := (x5.1.set a0.2.2.2.2.2.2.2.2.2.2.2.2.2.2.2.2.toNat ((x5.1.getD a0.2.2.2.2.2.2.2.2.2.2.2.2.2.2.2.2.toNat (0, 0, 0)).1, x4.1, (x5.1.getD a0.2.2.2.2.2.2.2.2.2.2.2.2.2.2.2.2.toNat (0, 0, 0)).2.2))
       some (0, (zAr a0 (y1, x5.2.1, x5.2.2.1, x5.2.2.2, a0.2.2.2.2.2.2.2.2.2.2.1, y0, (yC7 a0 [])))))
      else none)
     else (jL k a0.2.2.2.2.2.2.1 a0.2.2.2.2.2.2.2.1 a0.2.2.2.2.2.2.2.2.1 a0.2.2.2.2.2.2.2.2.2.1).bind fun x6 =>
     bif zE a0.2.2.2.2.2.2.2.2.2.2.2.2.2.2.2.2 x6.1.length then (let y2 : List zO := (x6.1.set a0.2.2.2.2.2.2.2.2.2.2.2.2.2.2.2.2.toNat ((x6.1.getD a0.2.2.2.2.2.2.2.2.2.2.2.2.2.2.2.2.toNat (0, 0, 0)).1, x4.1, (x6.1.getD a0.2.2.2.2.2.2.2.2.2.2.2.2.2.2.2.2.toNat (0, 0, 0)).2.2))
      some (0, (zAr a0 (y2, x6.2.1, x6.2.2.1, x6.2.2.2, a0.2.2.2.2.2.2.2.2.2.2.1, y0, (yC7 a0 [])))))
     else none)
    else none)
   else none)
  else none)
 else none
def zJh (k : Nat) (a0 : zA8) (a1 a2 a3 : Int) : Option (Int × wJ) :=
 (yQ k a2 0 (zA (a0.1 - 1))).bind fun x0 =>
 bif !x0 then some (1, (yT a0 []))
 else (yQ k a3 1 1099511627776).bind fun x1 =>
 bif !x1 then some (1, (yT a0 []))
 else bif zE a2 a0.2.2.2.2.2.2.1.length then ((zLn k (a0.2.2.2.2.2.2.1.getD a2.toNat (0, 0, 0)) a3).bind fun x2 =>
  bif decide (a1 = 11) then ((zK0 k (a0.2.2.2.2.2.2.1.getD a2.toNat (0, 0, 0)) a3 3).bind fun x3 =>
   (zJw k (a0.2.2.2.2.2.2.1.getD a2.toNat (0, 0, 0)) 3).bind fun x4 =>
   bif decide (x4 < a3) then some (9, (yT a0 []))
   else bif decide ((zA (a0.2.2.2.2.2.2.2.2.2.2.2.2.2.2.1 - a3)) < 0) then some (9, (yT a0 []))
   else bif !(decide (x3.2 = 0)) then some (x3.2, (yT a0 []))
   else bif decide ((zA (a0.2.2.2.2.2.2.2.2.2.2.2.2.2.2.1 - a3)) > 1152921504606846976) then some (8, (yT a0 []))
   else (jL k a0.2.2.2.2.2.2.1 a0.2.2.2.2.2.2.2.1 a0.2.2.2.2.2.2.2.2.1 a0.2.2.2.2.2.2.2.2.2.1).bind fun x5 =>
   bif zE a2 x5.1.length then some (0, (zAr a0 ((x5.1.set a2.toNat x3.1), x5.2.1, x5.2.2.1, x5.2.2.2, (zYz a0 ((zA (a0.2.2.2.2.2.2.2.2.2.2.2.2.2.2.1 - a3)), a0.2.2.2.2.2.2.2.2.2.2.2.2.2.2.2.1, a0.2.2.2.2.2.2.2.2.2.2.2.2.2.2.2.2, [])))))
   else none)
  else bif !(decide (x2.2 = 0)) then some (x2.2, (yT a0 []))
  else bif decide ((zA (a0.2.2.2.2.2.2.2.2.2.2.2.2.2.2.1 + a3)) > 1152921504606846976) then some (8, (yT a0 []))
  else (jL k a0.2.2.2.2.2.2.1 a0.2.2.2.2.2.2.2.1 a0.2.2.2.2.2.2.2.2.1 a0.2.2.2.2.2.2.2.2.2.1).bind fun x6 =>
  bif zE a2 x6.1.length then some (0, (zAr a0 ((x6.1.set a2.toNat x2.1), x6.2.1, x6.2.2.1, x6.2.2.2, (zYz a0 ((zA (a0.2.2.2.2.2.2.2.2.2.2.2.2.2.2.1 + a3)), a0.2.2.2.2.2.2.2.2.2.2.2.2.2.2.2.1, a0.2.2.2.2.2.2.2.2.2.2.2.2.2.2.2.2, [])))))
  else none)
 else none
abbrev qAj : Type := (zA8 × (List Int) × (List zO) × (List (List Int)) × (List Int) × (List (List Int))) ⊕ (Int × zA8)
abbrev qIj : Type := List (List Int) → Int → Int → zA8 → List Int → List zO → List (List Int) → List Int → List (List Int) → Option qAj
def zLa (k : Nat) (rec : qIj) (s40 : List (List Int)) (s41 s42 : Int) (b0 : zA8) (r1 : List Int) (r3 : List zO) (m4 : List (List Int)) (r5 : List Int) (m6 : List (List Int)) : Option qAj :=
 bif decide (s42 < s41) then (bif zE s42 s40.length then ((zEh k b0.2.1 r1 (s40.getD s42.toNat [])).bind fun x4 =>
   bif !x4.2 then some (.inr (8, b0))
   else bif decide (x4.1 > 1152921504606846976) then some (.inr (8, b0))
   else bif zE s42 r3.length then (let y0 : List zO := (r3.set s42.toNat ((r3.getD s42.toNat (0, 0, 0)).1, x4.1, (r3.getD s42.toNat (0, 0, 0)).2.2))
    rec s40 s41 (zA (s42 + 1)) b0 r1 y0 m4 r5 m6)
   else none)
  else none)
 else some (.inl (b0, r1, r3, m4, r5, m6))
def zE9 (k : Nat) : Nat → qIj := vX (fun _ _ _ _ _ _ _ _ _ => none) (zLa k)
def zYt (k : Nat) (a0 : zA8) (a1 a2 : Int) : Option (Int × wJ) :=
 (zPh k (yT a0 []) a1).bind fun x0 =>
 bif !x0 then some (1, (yT a0 []))
 else (yQ k a2 0 1048576).bind fun x1 =>
 bif !x1 then some (1, (yT a0 []))
 else (zDj k a0.2.2.2.2.2.2.2.2.2.2.1 a1 a2).bind fun x2 =>
 (jL k a0.2.2.2.2.2.2.1 a0.2.2.2.2.2.2.2.1 a0.2.2.2.2.2.2.2.2.1 a0.2.2.2.2.2.2.2.2.2.1).bind fun x3 =>
 (zE9 k k a0.2.2.2.2.2.2.2.2.2.2.2.1 (a0.2.2.2.2.2.2.2.2.2.2.2.1.length : Int) 0 a0 x2 x3.1 x3.2.1 x3.2.2.1 x3.2.2.2).bind fun z =>
 match z with
 | .inl z1 => some (0, (zAr z1.1 (qGc z1 (z1.2.1, (qKw z1.1 [])))))
 | .inr z2 => some (zAb z2 [])
def zWp (k : Nat) (a0 : zA8) (a1 : zD) : Option (Int × wJ) :=
 bif decide (a1.1 = 1) then ((yB5 k a0 a1.2).bind fun x0 =>
  some (x0.1, x0.2))
 else bif decide (a1.1 = 2) then ((zYk k a0 a1).bind fun x1 =>
  some (x1.1, x1.2))
 else bif decide (a1.1 = 3) then ((zYk k a0 a1).bind fun x2 =>
  some (x2.1, x2.2))
 else bif decide (a1.1 = 4) then ((zYk k a0 a1).bind fun x3 =>
  some (x3.1, x3.2))
 else bif decide (a1.1 = 5) then ((zWo k a0 a1).bind fun x4 =>
  some (x4.1, x4.2))
 else bif decide (a1.1 = 6) then ((zWo k a0 a1).bind fun x5 =>
  some (x5.1, x5.2))
 else bif decide (a1.1 = 7) then ((zWo k a0 a1).bind fun x6 =>
  some (x6.1, x6.2))
 else bif decide (a1.1 = 8) then ((qYj k a0 a1.2.1 a1.2.2.1).bind fun x7 =>
  some (x7.1, x7.2))
 else bif decide (a1.1 = 10) then ((zJh k a0 a1.1 a1.2.1 a1.2.2.1).bind fun x8 =>
  some (x8.1, x8.2))
 else bif decide (a1.1 = 11) then ((zJh k a0 a1.1 a1.2.1 a1.2.2.1).bind fun x9 =>
  some (x9.1, x9.2))
 else bif decide (a1.1 = 12) then ((zYt k a0 a1.2.1 a1.2.2.1).bind fun x10 =>
  some (x10.1, x10.2))
 else some (0, (yT a0 []))
def zYy (k : Nat) (a0 : yV) (a1 : vH) (a2 : yP) : Option (vH × (List yP) × Int) :=
 (zR3 k a0 a1 a2).bind fun x0 =>
 bif !(decide (x0 = 0)) then some (a1, [], x0)
 else bif decide (a2.2.1 = 9) then ((zXp k a1 a2.1).bind fun x1 =>
  some (a1, x1, 0))
 else bif !(decide (a2.1 = (-1))) then ((zZw k (zBg a0 (zBq a1 a2.1)) 15 []).bind fun x2 =>
  (zZ3 k x2 a2.2).bind fun x3 =>
  bif !(decide (x3.1 = 0)) then some (a1, [], x3.1)
  else bif decide (a2.2.1 = 14) then ((zJy k a0.1 a0.2.1 a0.2.2.1 a0.2.2.2.1 a0.2.2.2.2 a1.1 a1.2.1 a1.2.2.1 a1.2.2.2.1 a1.2.2.2.2.1 a1.2.2.2.2.2.1 a1.2.2.2.2.2.2.1 a1.2.2.2.2.2.2.2.1 a1.2.2.2.2.2.2.2.2.1 a1.2.2.2.2.2.2.2.2.2.1 a1.2.2.2.2.2.2.2.2.2.2).bind fun x4 =>
   some ((vK x4), x4.2.2.2.2.2.2.2.2.2.2.2, 0))
  else (zE1 k x3.2.2.2.2.2.2.1 x3.2.2.2.2.2.2.2.1 x3.2.2.2.2.2.2.2.2.1 x3.2.2.2.2.2.2.2.2.2.1 x3.2.2.2.2.2.2.2.2.2.2.1 x3.2.2.2.2.2.2.2.2.2.2.2.1 x3.2.2.2.2.2.2.2.2.2.2.2.2.1 x3.2.2.2.2.2.2.2.2.2.2.2.2.2.1 x3.2.2.2.2.2.2.2.2.2.2.2.2.2.2.1 x3.2.2.2.2.2.2.2.2.2.2.2.2.2.2.2.1 x3.2.2.2.2.2.2.2.2.2.2.2.2.2.2.2.2.1 (decide (a2.2.1 = 13))).bind fun x5 =>
  bif qR (x3.2.2.2.2.2.2.2.2.2.2.2.2.2.2.2.2.2.2.length + x5.2.2.2.2.2.2.2.2.2.2.2.length) 64 then (let y0 : List yP := (x3.2.2.2.2.2.2.2.2.2.2.2.2.2.2.2.2.2.2 ++ x5.2.2.2.2.2.2.2.2.2.2.2)
   bif decide (a2.2.1 = 1) then ((zCw k x5.2.2.2.2.2.2.2.1 a2.2.2.1).bind fun x6 =>
    bif decide (x6 ≥ 0) then ((zF9 k (zWy x3 y0) 19 [a2.2.2.1]).bind fun x7 =>
     some ((vK x5), x7.2.2.2.2.2.2.2.2.2.2.2.2.2.2.2.2.2, 0))
    else some ((vK x5), y0, 0))
   else some ((vK x5), y0, 0))
  else none)
 else (zWp k (zBg a0 (zBq a1 a2.1)) a2.2).bind fun x8 =>
 bif !(decide (x8.1 = 0)) then some (a1, [], x8.1)
 else bif decide (a2.2.1 = 14) then ((zJy k a0.1 a0.2.1 a0.2.2.1 a0.2.2.2.1 a0.2.2.2.2 a1.1 a1.2.1 a1.2.2.1 a1.2.2.2.1 a1.2.2.2.2.1 a1.2.2.2.2.2.1 a1.2.2.2.2.2.2.1 a1.2.2.2.2.2.2.2.1 a1.2.2.2.2.2.2.2.2.1 a1.2.2.2.2.2.2.2.2.2.1 a1.2.2.2.2.2.2.2.2.2.2).bind fun x9 =>
  some ((vK x9), x9.2.2.2.2.2.2.2.2.2.2.2, 0))
 else (zE1 k x8.2.2.2.2.2.2.1 x8.2.2.2.2.2.2.2.1 x8.2.2.2.2.2.2.2.2.1 x8.2.2.2.2.2.2.2.2.2.1 x8.2.2.2.2.2.2.2.2.2.2.1 x8.2.2.2.2.2.2.2.2.2.2.2.1 x8.2.2.2.2.2.2.2.2.2.2.2.2.1 x8.2.2.2.2.2.2.2.2.2.2.2.2.2.1 x8.2.2.2.2.2.2.2.2.2.2.2.2.2.2.1 x8.2.2.2.2.2.2.2.2.2.2.2.2.2.2.2.1 x8.2.2.2.2.2.2.2.2.2.2.2.2.2.2.2.2.1 (decide (a2.2.1 = 13))).bind fun x10 =>
 bif qR (x8.2.2.2.2.2.2.2.2.2.2.2.2.2.2.2.2.2.2.length + x10.2.2.2.2.2.2.2.2.2.2.2.length) 64 then (let y1 : List yP := (x8.2.2.2.2.2.2.2.2.2.2.2.2.2.2.2.2.2.2 ++ x10.2.2.2.2.2.2.2.2.2.2.2)
  bif decide (a2.2.1 = 1) then ((zCw k x10.2.2.2.2.2.2.2.1 a2.2.2.1).bind fun x11 =>
   bif decide (x11 ≥ 0) then ((zF9 k (zWy x8 y1) 19 [a2.2.2.1]).bind fun x12 =>
    some ((vK x10), x12.2.2.2.2.2.2.2.2.2.2.2.2.2.2.2.2.2, 0))
   else some ((vK x10), y1, 0))
  else some ((vK x10), y1, 0))
 else none
def zTp (k : Nat) (a0high a0low a1 : Int) : Option vQ :=
 some ((zA ((zA (a0high + (shr .i64 a1 32))) + (shr .i64 (zA (a0low + (qV .i64 a1 4294967295))) 32))), (qV .i64 (zA (a0low + (qV .i64 a1 4294967295))) 4294967295))
abbrev qM9 : Type := List Int → Int → Int → Int → Option vQ
def zKw (k : Nat) (rec : qM9) (s0 : List Int) (s5 b0_0 b0_1 : Int) : Option vQ :=
 bif decide (s5 < (s0.length : Int)) then (bif zE s5 s0.length then ((zTp k b0_0 b0_1 (s0.getD s5.toNat 0)).bind fun x0 =>
   rec s0 (zA (s5 + 1)) x0.1 x0.2)
  else none)
 else some (b0_0, b0_1)
def zRe (k : Nat) : Nat → qM9
 | 0, _, _, _, _ => none
 | n + 1, s0, s5, b0_0, b0_1 => zKw k (zRe k n) s0 s5 b0_0 b0_1
def zP6 (k : Nat) (a0 : List Int) : Option wF :=
 (zRe k k a0 0 0 0).bind fun z =>
 bif decide (z.1 < (-2147483648)) then some (0, false)
 else bif decide (z.1 ≥ 2147483648) then some (0, false)
 else some ((zA ((shl .i64 z.1 32) + z.2)), true)
def qDm (k : Nat) (vJ6 vJ7 vJ8 vJ9 vKa vKb vKc a1 : Int) : Option Bool :=
 bif decide (a1 ≥ vKb) then some (decide (a1 ≤ vKc))
 else some false
abbrev zV0 : Type := List zD
abbrev qCg : Type := List zD → Int → Int → List zD → Option zV0
def zJr (k : Nat) (rec : qCg) (s0 : List zD) (s1 s6 : Int) (r0 : List zD) : Option zV0 :=
 bif decide (s6 < (s0.length : Int)) then (bif zE s6 s0.length then ((qDm k (s0.getD s6.toNat (0, 0, 0, 0, 0, 0, 0)).1 (s0.getD s6.toNat (0, 0, 0, 0, 0, 0, 0)).2.1 (s0.getD s6.toNat (0, 0, 0, 0, 0, 0, 0)).2.2.1 (s0.getD s6.toNat (0, 0, 0, 0, 0, 0, 0)).2.2.2.1 (s0.getD s6.toNat (0, 0, 0, 0, 0, 0, 0)).2.2.2.2.1 (s0.getD s6.toNat (0, 0, 0, 0, 0, 0, 0)).2.2.2.2.2.1 (s0.getD s6.toNat (0, 0, 0, 0, 0, 0, 0)).2.2.2.2.2.2 s1).bind fun x0 =>
   bif x0 then (bif zE s6 s0.length then (bif qR (r0.length + 1) 56 then (let y0 : List zD := (r0 ++ [(s0.getD s6.toNat (0, 0, 0, 0, 0, 0, 0))])
      rec s0 s1 (zA (s6 + 1)) y0)
     else none)
    else none)
   else rec s0 s1 (zA (s6 + 1)) r0)
  else none)
 else some r0
def zQ2 (k : Nat) : Nat → qCg
 | 0, _, _, _, _ => none
 | n + 1, s0, s1, s6, r0 => zJr k (zQ2 k n) s0 s1 s6 r0
def zS9 (k : Nat) (a0 : List zD) (a1 : Int) : Option (List zD) :=
 (zQ2 k k a0 a1 0 []).bind fun z =>
 some z
abbrev zS6 : Type := List zD
abbrev qIe : Type := List zD → Int → Int → List zD → Option zS6
def zLr (k : Nat) (rec : qIe) (s0 : List zD) (s1 s6 : Int) (r0 : List zD) : Option zS6 :=
 bif decide (s6 < (s0.length : Int)) then (bif zE s6 s0.length then (bif decide ((s0.getD s6.toNat (0, 0, 0, 0, 0, 0, 0)).2.1 = s1) then (bif zE s6 s0.length then (bif qR (r0.length + 1) 56 then (let y0 : List zD := (r0 ++ [(s0.getD s6.toNat (0, 0, 0, 0, 0, 0, 0))])
      rec s0 s1 (zA (s6 + 1)) y0)
     else none)
    else none)
   else rec s0 s1 (zA (s6 + 1)) r0)
  else none)
 else some r0
def zRo (k : Nat) : Nat → qIe
 | 0, _, _, _, _ => none
 | n + 1, s0, s1, s6, r0 => zLr k (zRo k n) s0 s1 s6 r0
def zTv (k : Nat) (a0 : List zD) (a1 : Int) : Option (List zD) :=
 (zRo k k a0 a1 0 []).bind fun z =>
 some z
abbrev zXr : Type := Int × Bool × (List zD) × (List zD) × (List zD)
abbrev qHq : Type := Int → Bool → Int → List zD → List zD → List zD → Option zXr
def zLz (k : Nat) (rec : qHq) (s7 : Int) (s9 : Bool) (s10 : Int) (r0 r1 r2 : List zD) : Option zXr :=
 bif decide (s10 < (r2.length : Int)) then (bif s9 then (bif zE s10 r2.length then (rec s7 (decide ((r2.getD s10.toNat (0, 0, 0, 0, 0, 0, 0)).2.2.2.2.1 = 3)) (zA (s10 + 1)) r0 r1 r2)
   else none)
  else rec s7 false (zA (s10 + 1)) r0 r1 r2)
 else some (s7, s9, r0, r1, r2)
def zOd (k : Nat) : Nat → qHq
 | 0, _, _, _, _, _, _ => none
 | n + 1, s7, s9, s10, r0, r1, r2 => zLz k (zOd k n) s7 s9 s10 r0 r1 r2
abbrev zS7 : Type := List zD
abbrev qLg : Type := Int → List zD → List zD → Option zS7
def zJt (k : Nat) (rec : qLg) (s7 : Int) (r0 r1 : List zD) : Option zS7 :=
 bif decide (s7 < (r0.length : Int)) then (bif zE s7 r0.length then ((zTv k r0 (r0.getD s7.toNat (0, 0, 0, 0, 0, 0, 0)).2.1).bind fun x1 =>
   (zOd k k s7 true 0 r0 r1 x1).bind fun z =>
   bif zE 0 z.2.2.2.2.length then (bif zE z.1 z.2.2.1.length then (bif (decide ((z.2.2.2.2.getD 0 (0, 0, 0, 0, 0, 0, 0)).1 = (z.2.2.1.getD z.1.toNat (0, 0, 0, 0, 0, 0, 0)).1)) && ((decide ((z.2.2.2.2.getD 0 (0, 0, 0, 0, 0, 0, 0)).2.1 = (z.2.2.1.getD z.1.toNat (0, 0, 0, 0, 0, 0, 0)).2.1)) && ((decide ((z.2.2.2.2.getD 0 (0, 0, 0, 0, 0, 0, 0)).2.2.1 = (z.2.2.1.getD z.1.toNat (0, 0, 0, 0, 0, 0, 0)).2.2.1)) && ((decide ((z.2.2.2.2.getD 0 (0, 0, 0, 0, 0, 0, 0)).2.2.2.1 = (z.2.2.1.getD z.1.toNat (0, 0, 0, 0, 0, 0, 0)).2.2.2.1)) && ((decide ((z.2.2.2.2.getD 0 (0, 0, 0, 0, 0, 0, 0)).2.2.2.2.1 = (z.2.2.1.getD z.1.toNat (0, 0, 0, 0, 0, 0, 0)).2.2.2.2.1)) && ((decide ((z.2.2.2.2.getD 0 (0, 0, 0, 0, 0, 0, 0)).2.2.2.2.2.1 = (z.2.2.1.getD z.1.toNat (0, 0, 0, 0, 0, 0, 0)).2.2.2.2.2.1)) && (decide ((z.2.2.2.2.getD 0 (0, 0, 0, 0, 0, 0, 0)).2.2.2.2.2.2 = (z.2.2.1.getD z.1.toNat (0, 0, 0, 0, 0, 0, 0)).2.2.2.2.2.2))))))) then (bif zE z.1 z.2.2.1.length then (bif qR (z.2.2.2.1.length + 1) 56 then (let y0 : List zD := (z.2.2.2.1 ++ [(z.2.2.1.getD z.1.toNat (0, 0, 0, 0, 0, 0, 0))])
        rec (zA (z.1 + 1)) z.2.2.1 y0)
       else none)
      else none)
     else bif z.2.1 then (bif zE z.1 z.2.2.1.length then (bif qR (z.2.2.2.1.length + 1) 56 then (let y1 : List zD := (z.2.2.2.1 ++ [(z.2.2.1.getD z.1.toNat (0, 0, 0, 0, 0, 0, 0))])
        rec (zA (z.1 + 1)) z.2.2.1 y1)
       else none)
      else none)
     else rec (zA (z.1 + 1)) z.2.2.1 z.2.2.2.1)
    else none)
   else none)
  else none)
 else some r1
def zR9 (k : Nat) : Nat → qLg
 | 0, _, _, _ => none
 | n + 1, s7, r0, r1 => zJt k (zR9 k n) s7 r0 r1
def zXm (k : Nat) (a0 : List zD) (a1 : Int) : Option (List zD) :=
 (zS9 k a0 a1).bind fun x0 =>
 (zR9 k k 0 x0 []).bind fun z1 =>
 some z1
def qAt (k : Nat) (vKk : List zO) (vKl : List (List Int)) (vKm : List Int) (vKn : List (List Int)) (vKd vKe vKf vKg vKh vKi vKj : Int) : Option Bool :=
 bif decide (vKe ≥ 0) then (bif decide (vKe < (vKk.length : Int)) then (bif decide (vKf ≥ 0) then (bif decide (vKf < (vKk.length : Int)) then (bif !(decide (vKe = vKf)) then (bif decide (vKg ≥ 1) then (bif decide (vKg ≤ 1099511627776) then (bif decide (vKh ≥ 1) then some (decide (vKh ≤ 3))
        else some false)
       else some false)
      else some false)
     else some false)
    else some false)
   else some false)
  else some false)
 else some false
abbrev zZy : Type := (List zD) ⊕ Bool
abbrev qFm : Type := List zD → Int → List zO → List (List Int) → List Int → List (List Int) → Option zZy
def zKe (k : Nat) (rec : qFm) (s1 : List zD) (s5 : Int) (b0_0 : List zO) (b0_1 : List (List Int)) (b0_2 : List Int) (b0_3 : List (List Int)) : Option zZy :=
 bif decide (s5 < (s1.length : Int)) then (bif zE s5 s1.length then ((qAt k b0_0 b0_1 b0_2 b0_3 (s1.getD s5.toNat (0, 0, 0, 0, 0, 0, 0)).1 (s1.getD s5.toNat (0, 0, 0, 0, 0, 0, 0)).2.1 (s1.getD s5.toNat (0, 0, 0, 0, 0, 0, 0)).2.2.1 (s1.getD s5.toNat (0, 0, 0, 0, 0, 0, 0)).2.2.2.1 (s1.getD s5.toNat (0, 0, 0, 0, 0, 0, 0)).2.2.2.2.1 (s1.getD s5.toNat (0, 0, 0, 0, 0, 0, 0)).2.2.2.2.2.1 (s1.getD s5.toNat (0, 0, 0, 0, 0, 0, 0)).2.2.2.2.2.2).bind fun x0 =>
   bif !x0 then some (.inr false)
   else rec s1 (zA (s5 + 1)) b0_0 b0_1 b0_2 b0_3)
  else none)
 else some (.inl s1)
def zPc (k : Nat) : Nat → qFm
 | 0, _, _, _, _, _, _ => none
 | n + 1, s1, s5, b0_0, b0_1, b0_2, b0_3 => zKe k (zPc k n) s1 s5 b0_0 b0_1 b0_2 b0_3
def zRa (k : Nat) (vKk : List zO) (vKl : List (List Int)) (vKm : List Int) (vKn : List (List Int)) (a1 : List zD) : Option Bool :=
 (zPc k k a1 0 vKk vKl vKm vKn).bind fun z =>
 match z with
 | .inl z1 => some (decide ((z1.length : Int) ≤ 64))
 | .inr z2 => some z2
abbrev qIz : Type := List (List Int) → Int → List (List Int) → Option (List (List Int))
def zL3 (k : Nat) (rec : qIz) (s0 : List (List Int)) (s4 : Int) (m0 : List (List Int)) : Option (List (List Int)) :=
 bif decide (s4 < (s0.length : Int)) then (bif zE s4 s0.length then (bif qR (0 + (s0.getD s4.toNat []).length) 8 then (bif qR (m0.length + 1) 24 then (rec s0 (zA (s4 + 1)) (m0 ++ [(s0.getD s4.toNat [])]))
    else none)
   else none)
  else none)
 else some m0
def zQa (k : Nat) : Nat → qIz
 | 0, _, _, _ => none
 | n + 1, s0, s4, m0 => zL3 k (zQa k n) s0 s4 m0
def zRk (k : Nat) (a0 : List (List Int)) : Option (List (List Int)) :=
 (zQa k k a0 0 []).bind fun z =>
 some z
def zZe (k : Nat) (vKk : List zO) (vKl : List (List Int)) (vKm : List Int) (vKn : List (List Int)) : Option ((List zO) × (List (List Int)) × (List Int) × (List (List Int))) :=
 bif qR (0 + vKk.length) 24 then ((zRk k vKl).bind fun x0 =>
  bif qR (0 + vKm.length) 8 then ((zRk k vKn).bind fun x1 =>
   some (vKk, x0, vKm, x1))
  else none)
 else none
abbrev qHf : Type := List zD → Int → Int → Int → Int → Option vQ
def zJz (k : Nat) (rec : qHf) (s0 : List zD) (s1 s6 s7 s8 : Int) : Option vQ :=
 bif decide (s8 < (s0.length : Int)) then (bif zE s8 s0.length then (bif !(decide ((s0.getD s8.toNat (0, 0, 0, 0, 0, 0, 0)).2.1 = s1)) then (rec s0 s1 s6 s7 (zA (s8 + 1)))
   else bif zE s8 s0.length then (bif decide ((s0.getD s8.toNat (0, 0, 0, 0, 0, 0, 0)).2.2.2.2.1 = 3) then (bif zE s8 s0.length then (rec s0 s1 (zA (s6 + (s0.getD s8.toNat (0, 0, 0, 0, 0, 0, 0)).2.2.2.1)) s7 (zA (s8 + 1)))
     else none)
    else bif zE s8 s0.length then (rec s0 s1 s6 (zA (s7 + (s0.getD s8.toNat (0, 0, 0, 0, 0, 0, 0)).2.2.2.1)) (zA (s8 + 1)))
    else none)
   else none)
  else none)
 else some (s6, s7)
def zOv (k : Nat) : Nat → qHf
 | 0, _, _, _, _, _ => none
 | n + 1, s0, s1, s6, s7, s8 => zJz k (zOv k n) s0 s1 s6 s7 s8
def zS0 (k : Nat) (a0 : List zD) (a1 : Int) : Option vQ :=
 (zOv k k a0 a1 0 0 0).bind fun z =>
 some (z.1, z.2)
def qAc (k : Nat) (a0 : List zD) (a1 : Int) : Option Int :=
 (zS0 k a0 a1).bind fun x0 =>
 some x0.2
def zJ6 (k : Nat) (vKo vKp vKq a1 : Int) : Option Int :=
 bif decide (a1 ≥ vKq) then some 0
 else some (zA (vKq - a1))
abbrev qJw : Type := List zD → Int → Int → Int → Int → Option Int
def zLe (k : Nat) (rec : qJw) (s0 : List zD) (s1 s2 s7 s8 : Int) : Option Int :=
 bif decide (s8 < (s0.length : Int)) then (bif zE s8 s0.length then (bif decide ((s0.getD s8.toNat (0, 0, 0, 0, 0, 0, 0)).2.1 = s1) then (bif zE s8 s0.length then (bif decide ((s0.getD s8.toNat (0, 0, 0, 0, 0, 0, 0)).2.2.1 = s2) then (bif zE s8 s0.length then (rec s0 s1 s2 (zA (s7 + (s0.getD s8.toNat (0, 0, 0, 0, 0, 0, 0)).2.2.2.1)) (zA (s8 + 1)))
      else none)
     else rec s0 s1 s2 s7 (zA (s8 + 1)))
    else none)
   else rec s0 s1 s2 s7 (zA (s8 + 1)))
  else none)
 else some s7
def zRq (k : Nat) : Nat → qJw
 | 0, _, _, _, _, _ => none
 | n + 1, s0, s1, s2, s7, s8 => zLe k (zRq k n) s0 s1 s2 s7 s8
def zGz (k : Nat) (a0 : List zD) (a1 a2 : Int) : Option Int :=
 (zRq k k a0 a1 a2 0 0).bind fun z =>
 some z
def zW7 (k : Nat) (a0 : List zD) (a1 a2 : Int) : Option Int :=
 (zGz k a0 a1 a2).bind fun x0 =>
 (zGz k a0 a2 a1).bind fun x1 =>
 some (zA (x0 - x1))
abbrev qH6 : Type := List (List Int) → Int → Int → Option (Unit ⊕ Bool)
def zNv (k : Nat) (rec : qH6) (s0 : List (List Int)) (s1 s5 : Int) : Option (Unit ⊕ Bool) :=
 bif decide (s5 < s1) then (bif zE s5 s0.length then (bif !(decide (((s0.getD s5.toNat []).length : Int) = s1)) then some (.inr false)
   else rec s0 s1 (zA (s5 + 1)))
  else none)
 else some (.inl ())
def zRt (k : Nat) : Nat → qH6
 | 0, _, _, _ => none
 | n + 1, s0, s1, s5 => zNv k (zRt k n) s0 s1 s5
def zQ9 (k : Nat) (a0 : List (List Int)) (a1 : Int) : Option Bool :=
 bif !(decide ((a0.length : Int) = a1)) then some false
 else (zRt k k a0 a1 0).bind fun z =>
 match z with
 | .inl z1 => some true
 | .inr z2 => some z2
def zX5 (k : Nat) (vKo vKp vKq : Int) : Option Bool :=
 bif decide (vKo > (-4611686018427387904)) then (bif decide (vKo < 4611686018427387904) then (bif decide (vKp ≥ 0) then (bif decide (vKp ≤ 2305843009213693952) then (bif decide (vKq ≥ 0) then some (decide (vKq ≤ 2305843009213693952))
     else some false)
    else some false)
   else some false)
  else some false)
 else some false
def zSj (k : Nat) (a0 : Int) : Option Bool :=
 bif decide (a0 ≥ (-1)) then some (decide (a0 ≤ 2305843009213693952))
 else some false
abbrev zYs : Type := (Int × Int × (List zO) × (List (List Int)) × (List Int) × (List (List Int))) ⊕ Bool
abbrev qI4 : Type := Int → Int → Int → List zO → List (List Int) → List Int → List (List Int) → Option zYs
def zJ1 (k : Nat) (rec : qI4) (s3 s4 s5 : Int) (b0_0 : List zO) (b0_1 : List (List Int)) (b0_2 : List Int) (b0_3 : List (List Int)) : Option zYs :=
 bif decide (s5 < s3) then (bif zE s4 b0_1.length then (bif zE s5 (b0_1.getD s4.toNat []).length then ((zSj k ((b0_1.getD s4.toNat []).getD s5.toNat 0)).bind fun x4 =>
    bif !x4 then some (.inr false)
    else bif zE s4 b0_3.length then (bif zE s5 (b0_3.getD s4.toNat []).length then (bif decide (((b0_3.getD s4.toNat []).getD s5.toNat 0) ≤ (-72057594037927936)) then some (.inr false)
      else bif zE s4 b0_3.length then (bif zE s5 (b0_3.getD s4.toNat []).length then (bif decide (((b0_3.getD s4.toNat []).getD s5.toNat 0) ≥ 72057594037927936) then some (.inr false)
        else bif zE s4 b0_3.length then (bif zE s5 (b0_3.getD s4.toNat []).length then (bif zE s5 b0_3.length then (bif zE s4 (b0_3.getD s5.toNat []).length then (bif !(decide (((b0_3.getD s4.toNat []).getD s5.toNat 0) = (zA (0 - ((b0_3.getD s5.toNat []).getD s4.toNat 0))))) then some (.inr false)
            else rec s3 s4 (zA (s5 + 1)) b0_0 b0_1 b0_2 b0_3)
           else none)
          else none)
         else none)
        else none)
       else none)
      else none)
     else none)
    else none)
   else none)
  else none)
 else some (.inl (s3, s4, b0_0, b0_1, b0_2, b0_3))
def zKc (k : Nat) : Nat → qI4
 | 0, _, _, _, _, _, _, _ => none
 | n + 1, s3, s4, s5, b0_0, b0_1, b0_2, b0_3 => zJ1 k (zKc k n) s3 s4 s5 b0_0 b0_1 b0_2 b0_3
abbrev qOy : Type := Int → Int → List zO → List (List Int) → List Int → List (List Int) → Option (Unit ⊕ Bool)
def zLd (k : Nat) (rec : qOy) (s3 s4 : Int) (b0_0 : List zO) (b0_1 : List (List Int)) (b0_2 : List Int) (b0_3 : List (List Int)) : Option (Unit ⊕ Bool) :=
 bif decide (s4 < s3) then (bif zE s4 b0_0.length then ((zX5 k (b0_0.getD s4.toNat (0, 0, 0)).1 (b0_0.getD s4.toNat (0, 0, 0)).2.1 (b0_0.getD s4.toNat (0, 0, 0)).2.2).bind fun x2 =>
   bif !x2 then some (.inr false)
   else bif zE s4 b0_2.length then ((zSj k (b0_2.getD s4.toNat 0)).bind fun x3 =>
    bif !x3 then some (.inr false)
    else (zKc k k s3 s4 0 b0_0 b0_1 b0_2 b0_3).bind fun z =>
    match z with
    | .inl z1 => rec z1.1 (zA (z1.2.1 + 1)) z1.2.2.1 z1.2.2.2.1 z1.2.2.2.2.1 z1.2.2.2.2.2
    | .inr z2 => some (.inr z2))
   else none)
  else none)
 else some (.inl ())
def zNo (k : Nat) : Nat → qOy
 | 0, _, _, _, _, _, _ => none
 | n + 1, s3, s4, b0_0, b0_1, b0_2, b0_3 => zLd k (zNo k n) s3 s4 b0_0 b0_1 b0_2 b0_3
def zH0 (k : Nat) (vKk : List zO) (vKl : List (List Int)) (vKm : List Int) (vKn : List (List Int)) : Option Bool :=
 bif decide ((vKk.length : Int) < 1) then some false
 else bif decide ((vKk.length : Int) > 6) then some false
 else (zQ9 k vKl (vKk.length : Int)).bind fun x0 =>
 bif !x0 then some false
 else (zQ9 k vKn (vKk.length : Int)).bind fun x1 =>
 bif !x1 then some false
 else bif !(decide ((vKm.length : Int) = (vKk.length : Int))) then some false
 else (zNo k k (vKk.length : Int) 0 vKk vKl vKm vKn).bind fun z3 =>
 match z3 with
 | .inl z4 => some true
 | .inr z5 => some z5
abbrev zUe : Type := (List zD) × Int × (List zO) × (List (List Int)) × (List Int) × (List (List Int)) × (List zO) × (List (List Int)) × (List Int) × (List (List Int))
abbrev qKy : Type := List zD → Int → Int → List zO → List (List Int) → List Int → List (List Int) → List zO → List (List Int) → List Int → List (List Int) → Option zUe
def zNj (k : Nat) (rec : qKy) (s1 : List zD) (s7 s8 : Int) (b0_0 : List zO) (b0_1 : List (List Int)) (b0_2 : List Int) (b0_3 : List (List Int)) (r3 : List zO) (m4 : List (List Int)) (r5 : List Int) (m6 : List (List Int)) : Option zUe :=
 bif decide (s8 < (r3.length : Int)) then ((zW7 k s1 s7 s8).bind fun x4 =>
  bif zE s7 r3.length then (bif zE s7 r3.length then (let y1 : List zO := (r3.set s7.toNat ((zA ((r3.getD s7.toNat (0, 0, 0)).1 - x4)), (r3.getD s7.toNat (0, 0, 0)).2))
    bif zE s7 m6.length then (bif zE s7 m6.length then (bif zE s8 (m6.getD s7.toNat []).length then (bif zE s8 (m6.getD s7.toNat []).length then (let y2 : List (List Int) := (m6.set s7.toNat ((m6.getD s7.toNat []).set s8.toNat (zA (((m6.getD s7.toNat []).getD s8.toNat 0) + x4))))
        rec s1 s7 (zA (s8 + 1)) b0_0 b0_1 b0_2 b0_3 y1 m4 r5 y2)
       else none)
      else none)
     else none)
    else none)
   else none)
  else none)
 else some (s1, s7, b0_0, b0_1, b0_2, b0_3, r3, m4, r5, m6)
def zMy (k : Nat) : Nat → qKy
 | 0, _, _, _, _, _, _, _, _, _, _, _ => none
 | n + 1, s1, s7, s8, b0_0, b0_1, b0_2, b0_3, r3, m4, r5, m6 => zNj k (zMy k n) s1 s7 s8 b0_0 b0_1 b0_2 b0_3 r3 m4 r5 m6
abbrev zTj : Type := (List zO) × (List (List Int)) × (List Int) × (List (List Int)) × (List zO) × (List (List Int)) × (List Int) × (List (List Int))
abbrev qF5 : Type := List zD → Int → List zO → List (List Int) → List Int → List (List Int) → List zO → List (List Int) → List Int → List (List Int) → Option zTj
def zNt (k : Nat) (rec : qF5) (s1 : List zD) (s7 : Int) (b0_0 : List zO) (b0_1 : List (List Int)) (b0_2 : List Int) (b0_3 : List (List Int)) (r3 : List zO) (m4 : List (List Int)) (r5 : List Int) (m6 : List (List Int)) : Option zTj :=
 bif decide (s7 < (r3.length : Int)) then (bif zE s7 r3.length then ((qAc k s1 s7).bind fun x2 =>
   (zJ6 k (r3.getD s7.toNat (0, 0, 0)).1 (r3.getD s7.toNat (0, 0, 0)).2.1 (r3.getD s7.toNat (0, 0, 0)).2.2 x2).bind fun x3 =>
   bif zE s7 r3.length then (let y0 : List zO := (r3.set s7.toNat ((r3.getD s7.toNat (0, 0, 0)).1, (r3.getD s7.toNat (0, 0, 0)).2.1, x3))
    (zMy k k s1 s7 0 b0_0 b0_1 b0_2 b0_3 y0 m4 r5 m6).bind fun z =>
    rec z.1 (zA (z.2.1 + 1)) z.2.2.1 z.2.2.2.1 z.2.2.2.2.1 z.2.2.2.2.2.1 z.2.2.2.2.2.2.1 z.2.2.2.2.2.2.2.1 z.2.2.2.2.2.2.2.2.1 z.2.2.2.2.2.2.2.2.2)
   else none)
  else none)
 else some (b0_0, b0_1, b0_2, b0_3, r3, m4, r5, m6)
def zMz (k : Nat) : Nat → qF5
 | 0, _, _, _, _, _, _, _, _, _, _ => none
 | n + 1, s1, s7, b0_0, b0_1, b0_2, b0_3, r3, m4, r5, m6 => zNt k (zMz k n) s1 s7 b0_0 b0_1 b0_2 b0_3 r3 m4 r5 m6
def zR4 (k : Nat) (vKk : List zO) (vKl : List (List Int)) (vKm : List Int) (vKn : List (List Int)) (a1 : List zD) : Option ((List zO) × (List (List Int)) × (List Int) × (List (List Int)) × Int) :=
 (zRa k vKk vKl vKm vKn a1).bind fun x0 =>
 bif !x0 then some (vKk, vKl, vKm, vKn, 1)
 else (zZe k vKk vKl vKm vKn).bind fun x1 =>
 (zMz k k a1 0 vKk vKl vKm vKn x1.1 x1.2.1 x1.2.2.1 x1.2.2.2).bind fun z1 =>
 (zH0 k z1.2.2.2.2.1 z1.2.2.2.2.2.1 z1.2.2.2.2.2.2.1 z1.2.2.2.2.2.2.2).bind fun x5 =>
 bif !x5 then some (wD z1 8)
 else some (yAe z1 0)
abbrev qI1 : Type := Int → Int → Int → List zO → List (List Int) → List Int → List (List Int) → Option Int
def zJv (k : Nat) (rec : qI1) (s1 s5 s6 : Int) (b0_0 : List zO) (b0_1 : List (List Int)) (b0_2 : List Int) (b0_3 : List (List Int)) : Option Int :=
 bif zE s1 b0_3.length then (bif decide (s6 < ((b0_3.getD s1.toNat []).length : Int)) then (bif zE s1 b0_3.length then (bif zE s6 (b0_3.getD s1.toNat []).length then (rec s1 (zA (s5 + ((b0_3.getD s1.toNat []).getD s6.toNat 0))) (zA (s6 + 1)) b0_0 b0_1 b0_2 b0_3)
    else none)
   else none)
  else some s5)
 else none
def zMr (k : Nat) : Nat → qI1
 | 0, _, _, _, _, _, _, _ => none
 | n + 1, s1, s5, s6, b0_0, b0_1, b0_2, b0_3 => zJv k (zMr k n) s1 s5 s6 b0_0 b0_1 b0_2 b0_3
def zYi (k : Nat) (vKk : List zO) (vKl : List (List Int)) (vKm : List Int) (vKn : List (List Int)) (a1 : Int) : Option Int :=
 (zMr k k a1 0 0 vKk vKl vKm vKn).bind fun z =>
 some z
abbrev zU8 : Type := (Int × Int × Int × Int × Int × (List zO) × (List (List Int)) × (List Int) × (List (List Int))) ⊕ Bool
abbrev qG0 : Type := List zD → Int → Int → Int → Int → Int → Int → List zO → List (List Int) → List Int → List (List Int) → Option zU8
def zLq (k : Nat) (rec : qG0) (s1 : List zD) (s2 s7 s8 s9 s10 s11 : Int) (b0_0 : List zO) (b0_1 : List (List Int)) (b0_2 : List Int) (b0_3 : List (List Int)) : Option zU8 :=
 bif decide (s11 < (b0_0.length : Int)) then ((zGz k s1 s2 s11).bind fun x2 =>
  (zGz k s1 s11 s2).bind fun x3 =>
  (zGz k s1 s2 s11).bind fun x4 =>
  bif decide (x4 > 0) then (bif zE s2 b0_1.length then (bif zE s11 (b0_1.getD s2.toNat []).length then (bif !(decide (((b0_1.getD s2.toNat []).getD s11.toNat 0) = (-1))) then (bif zE s2 b0_3.length then (bif zE s11 (b0_3.getD s2.toNat []).length then (bif zE s2 b0_1.length then (bif zE s11 (b0_1.getD s2.toNat []).length then (bif decide ((zA (((b0_3.getD s2.toNat []).getD s11.toNat 0) + (zA (x2 - x3)))) > ((b0_1.getD s2.toNat []).getD s11.toNat 0)) then some (.inr true)
          else rec s1 s2 s7 s8 (zA (s9 - (zA (x2 - x3)))) (zA (s10 + (zA (x2 - x3)))) (zA (s11 + 1)) b0_0 b0_1 b0_2 b0_3)
         else none)
        else none)
       else none)
      else none)
     else rec s1 s2 s7 s8 (zA (s9 - (zA (x2 - x3)))) (zA (s10 + (zA (x2 - x3)))) (zA (s11 + 1)) b0_0 b0_1 b0_2 b0_3)
    else none)
   else none)
  else rec s1 s2 s7 s8 (zA (s9 - (zA (x2 - x3)))) (zA (s10 + (zA (x2 - x3)))) (zA (s11 + 1)) b0_0 b0_1 b0_2 b0_3)
 else some (.inl (s2, s7, s8, s9, s10, b0_0, b0_1, b0_2, b0_3))
def zD2 (k : Nat) : Nat → qG0
 | 0, _, _, _, _, _, _, _, _, _, _, _ => none
 | n + 1, s1, s2, s7, s8, s9, s10, s11, b0_0, b0_1, b0_2, b0_3 => zLq k (zD2 k n) s1 s2 s7 s8 s9 s10 s11 b0_0 b0_1 b0_2 b0_3
def zVb (k : Nat) (vKk : List zO) (vKl : List (List Int)) (vKm : List Int) (vKn : List (List Int)) (a1 : List zD) (a2 : Int) : Option Bool :=
 (zS0 k a1 a2).bind fun x0 =>
 bif decide ((zA (x0.1 + x0.2)) = 0) then some false
 else bif zE a2 vKk.length then (bif zE a2 vKk.length then ((zYi k vKk vKl vKm vKn a2).bind fun x1 =>
   (zD2 k k a1 a2 x0.1 x0.2 (zA ((vKk.getD a2.toNat (0, 0, 0)).1 + (vKk.getD a2.toNat (0, 0, 0)).2.1)) x1 0 vKk vKl vKm vKn).bind fun z =>
   match z with
   | .inl z1 => bif decide (z1.2.2.2.1 < 0) then some true
    else bif decide (z1.2.1 > 0) then (bif zE z1.1 z1.2.2.2.2.2.1.length then ((zJ6 k (z1.2.2.2.2.2.1.getD z1.1.toNat (0, 0, 0)).1 (z1.2.2.2.2.2.1.getD z1.1.toNat (0, 0, 0)).2.1 (z1.2.2.2.2.2.1.getD z1.1.toNat (0, 0, 0)).2.2 z1.2.2.1).bind fun x5 =>
      bif decide (z1.2.2.2.1 < x5) then some true
      else bif zE z1.1 z1.2.2.2.2.2.2.2.1.length then (bif !(decide ((z1.2.2.2.2.2.2.2.1.getD z1.1.toNat 0) = (-1))) then (bif zE z1.1 z1.2.2.2.2.2.2.2.1.length then some (decide (z1.2.2.2.2.1 > (z1.2.2.2.2.2.2.2.1.getD z1.1.toNat 0)))
        else none)
       else some false)
      else none)
     else none)
    else bif zE z1.1 z1.2.2.2.2.2.2.2.1.length then (bif !(decide ((z1.2.2.2.2.2.2.2.1.getD z1.1.toNat 0) = (-1))) then (bif zE z1.1 z1.2.2.2.2.2.2.2.1.length then some (decide (z1.2.2.2.2.1 > (z1.2.2.2.2.2.2.2.1.getD z1.1.toNat 0)))
      else none)
     else some false)
    else none
   | .inr z2 => some z2)
  else none)
 else none
abbrev qPh : Type := List zD → Int → List zO → List (List Int) → List Int → List (List Int) → List Int → Option (List Int)
def zKj (k : Nat) (rec : qPh) (s1 : List zD) (s6 : Int) (b0_0 : List zO) (b0_1 : List (List Int)) (b0_2 : List Int) (b0_3 : List (List Int)) (r1 : List Int) : Option (List Int) :=
 bif decide (s6 < (b0_0.length : Int)) then ((zVb k b0_0 b0_1 b0_2 b0_3 s1 s6).bind fun x0 =>
  bif x0 then (bif qR (r1.length + 1) 8 then (rec s1 (zA (s6 + 1)) b0_0 b0_1 b0_2 b0_3 (r1 ++ [s6]))
   else none)
  else rec s1 (zA (s6 + 1)) b0_0 b0_1 b0_2 b0_3 r1)
 else some r1
def zHg (k : Nat) : Nat → qPh
 | 0, _, _, _, _, _, _, _ => none
 | n + 1, s1, s6, b0_0, b0_1, b0_2, b0_3, r1 => zKj k (zHg k n) s1 s6 b0_0 b0_1 b0_2 b0_3 r1
def zWc (k : Nat) (vKk : List zO) (vKl : List (List Int)) (vKm : List Int) (vKn : List (List Int)) (a1 : List zD) : Option (List Int) :=
 (zHg k k a1 0 vKk vKl vKm vKn []).bind fun z =>
 some z
def zSs (k : Nat) (vKk : List zO) (vKl : List (List Int)) (vKm : List Int) (vKn : List (List Int)) (a1 : List zD) : Option Bool :=
 (zRa k vKk vKl vKm vKn a1).bind fun x0 =>
 bif x0 then ((zWc k vKk vKl vKm vKn a1).bind fun x1 =>
  some (decide ((x1.length : Int) = 0)))
 else some false
def zW1 (k : Nat) (vKk : List zO) (vKl : List (List Int)) (vKm : List Int) (vKn : List (List Int)) (a1 : List zD) : Option ((List zO) × (List (List Int)) × (List Int) × (List (List Int)) × Bool) :=
 (zR4 k vKk vKl vKm vKn a1).bind fun x0 =>
 bif decide (x0.2.2.2.2 = 0) then ((zSs k vKk vKl vKm vKn a1).bind fun x1 =>
  some (wD x0 x1))
 else some (wD x0 false)
abbrev qAb : Type := zD ⊕ (Bool × Int × Int × Int × Int × Int × Int × Int)
abbrev qF8 : Type := Int → List zO → List (List Int) → List Int → List (List Int) → Int → Int → Int → Int → Int → Int → Int → List zD → Option qAb
def zKa (k : Nat) (rec : qF8) (s9 : Int) (b0_0 : List zO) (b0_1 : List (List Int)) (b0_2 : List Int) (b0_3 : List (List Int)) (b1_0 b1_1 b1_2 b1_3 b1_4 b1_5 b1_6 : Int) (r2 : List zD) : Option qAb :=
 bif decide (s9 < (r2.length : Int)) then (bif ((decide (0 ≤ s9)) && (decide (s9 ≤ (zA (s9 + 1))))) && (decide ((zA (s9 + 1)) ≤ (r2.length : Int))) then ((zW1 k b0_0 b0_1 b0_2 b0_3 (yB r2 (0 + s9.toNat) ((zA (s9 + 1)).toNat - s9.toNat))).bind fun x1 =>
   bif x1.2.2.2.2 then (bif zE s9 r2.length then some (.inr (true, (r2.getD s9.toNat (0, 0, 0, 0, 0, 0, 0)).1, (r2.getD s9.toNat (0, 0, 0, 0, 0, 0, 0)).2.1, (r2.getD s9.toNat (0, 0, 0, 0, 0, 0, 0)).2.2.1, (r2.getD s9.toNat (0, 0, 0, 0, 0, 0, 0)).2.2.2.1, (r2.getD s9.toNat (0, 0, 0, 0, 0, 0, 0)).2.2.2.2.1, (r2.getD s9.toNat (0, 0, 0, 0, 0, 0, 0)).2.2.2.2.2.1, (r2.getD s9.toNat (0, 0, 0, 0, 0, 0, 0)).2.2.2.2.2.2))
    else none)
   else rec (zA (s9 + 1)) b0_0 b0_1 b0_2 b0_3 b1_0 b1_1 b1_2 b1_3 b1_4 b1_5 b1_6 r2)
  else none)
 else some (.inl (b1_0, b1_1, b1_2, b1_3, b1_4, b1_5, b1_6))
def zPi (k : Nat) : Nat → qF8
 | 0, _, _, _, _, _, _, _, _, _, _, _, _, _ => none
 | n + 1, s9, b0_0, b0_1, b0_2, b0_3, b1_0, b1_1, b1_2, b1_3, b1_4, b1_5, b1_6, r2 => zKa k (zPi k n) s9 b0_0 b0_1 b0_2 b0_3 b1_0 b1_1 b1_2 b1_3 b1_4 b1_5 b1_6 r2
def zU0 (k : Nat) (vKk : List zO) (vKl : List (List Int)) (vKm : List Int) (vKn : List (List Int)) (a1 : List zD) (a2 : Int) : Option (Int × Int × Int × Int × Int × Int × Int × Bool) :=
 (zXm k a1 a2).bind fun x0 =>
 (zPi k k 0 vKk vKl vKm vKn 0 0 0 0 0 0 0 x0).bind fun z =>
 match z with
 | .inl z1 => some (0, 0, 0, 0, 0, 0, 0, false)
 | .inr z2 => some (yLn z2 z2.1)
abbrev qOz : Type := List zD → Int → Int → Option (Unit ⊕ Int)
def zMa (k : Nat) (rec : qOz) (s0 : List zD) (s1 s5 : Int) : Option (Unit ⊕ Int) :=
 bif decide (s5 < (s0.length : Int)) then (bif zE s5 s0.length then (bif decide ((s0.getD s5.toNat (0, 0, 0, 0, 0, 0, 0)).1 = s1) then some (.inr s5)
   else rec s0 s1 (zA (s5 + 1)))
  else none)
 else some (.inl ())
def zNw (k : Nat) : Nat → qOz
 | 0, _, _, _ => none
 | n + 1, s0, s1, s5 => zMa k (zNw k n) s0 s1 s5
def zTm (k : Nat) (a0 : List zD) (a1 : Int) : Option Int :=
 (zNw k k a0 a1 0).bind fun z =>
 match z with
 | .inl z1 => some (-1)
 | .inr z2 => some z2
abbrev qH1 : Type := List Int → Int → Int → Option (Unit ⊕ Bool)
def zY2 (k : Nat) (rec : qH1) (s0 : List Int) (s1 s5 : Int) : Option (Unit ⊕ Bool) :=
 bif decide (s5 < (s0.length : Int)) then (bif zE s5 s0.length then (bif decide ((s0.getD s5.toNat 0) = s1) then some (.inr true)
   else rec s0 s1 (zA (s5 + 1)))
  else none)
 else some (.inl ())
def zOw (k : Nat) : Nat → qH1 := vX (fun _ _ _ => none) (zY2 k)
def zXq (k : Nat) (a0 : List Int) (a1 : Int) : Option Bool :=
 (zOw k k a0 a1 0).bind fun z =>
 match z with
 | .inl z1 => some false
 | .inr z2 => some z2
def zXc (k : Nat) (vJ6 vJ7 vJ8 vJ9 vKa vKb vKc vKd vKe vKf vKg vKh vKi vKj : Int) : Option Bool :=
 bif decide (vJ7 < vKe) then some true
 else bif decide (vJ7 = vKe) then some (decide (vKa ≤ vKh))
 else some false
def zWm (k : Nat) (a0 : Int) : Option (List Int) :=
 some [(qV .i64 a0 65535), (qV .i64 (shr .i64 a0 16) 65535), (qV .i64 (shr .i64 a0 32) 65535), (qV .i64 (shr .i64 a0 48) 65535)]
def qS7 (k : Nat) (rec : Int → List Int → Option (List Int)) (s3 : Int) (r0 : List Int) : Option (List Int) :=
 bif decide ((zA (s3 + 1)) < (r0.length : Int)) then (bif zE (zA (s3 + 1)) r0.length then (bif zE s3 r0.length then (bif zE (zA (s3 + 1)) r0.length then (let y0 : List Int := (r0.set (zA (s3 + 1)).toNat (zA ((r0.getD (zA (s3 + 1)).toNat 0) + (shr .i64 (r0.getD s3.toNat 0) 16))))
     bif zE s3 y0.length then (bif zE s3 y0.length then (rec (zA (s3 + 1)) (y0.set s3.toNat (qV .i64 (y0.getD s3.toNat 0) 65535)))
      else none)
     else none)
    else none)
   else none)
  else none)
 else some r0
def qHr (k : Nat) : Nat → Int → List Int → Option (List Int) := vX (fun _ _ => none) (qS7 k)
def zH5 (k : Nat) (a0 : List Int) : Option (List Int) :=
 (qHr k k 0 a0).bind fun z =>
 some z
abbrev zZ5 : Type := Int × Int × (List Int) × (List Int)
abbrev qBp : Type := Int → Int → Int → List Int → List Int → Option zZ5
def yH7 (k : Nat) (rec : qBp) (s1 s7 s8 : Int) (r0 r1 : List Int) : Option zZ5 :=
 bif decide (s8 < 4) then (bif !(decide ((IntKind.wrap .u64 ((zA (16 * s8)))) < 0)) then (bif zE (zA (s7 + s8)) r1.length then (bif zE s7 r0.length then (bif zE (zA (s7 + s8)) r1.length then (let y0 : List Int := (r1.set (zA (s7 + s8)).toNat (zA ((r1.getD (zA (s7 + s8)).toNat 0) + (zA ((r0.getD s7.toNat 0) * (qV .i64 (shr .i64 s1 (IntKind.wrap .u64 ((zA (16 * s8))))) 65535))))))
      rec s1 s7 (zA (s8 + 1)) r0 y0)
     else none)
    else none)
   else none)
  else none)
 else some (s1, s7, r0, r1)
def qCw (k : Nat) : Nat → qBp := vX (fun _ _ _ _ _ => none) (yH7 k)
abbrev qNb : Type := Int → Int → List Int → List Int → Option (List Int)
def qVo (k : Nat) (rec : qNb) (s1 s7 : Int) (r0 r1 : List Int) : Option (List Int) :=
 bif decide (s7 < 4) then ((qCw k k s1 s7 0 r0 r1).bind fun z =>
  rec z.1 (zA (z.2.1 + 1)) z.2.2.1 z.2.2.2)
 else some r1
def zTu (k : Nat) : Nat → qNb := vX (fun _ _ _ _ => none) (qVo k)
def zWi (k : Nat) (a0 a1 : Int) : Option (List Int) :=
 (zWm k a0).bind fun x0 =>
 (zTu k k a1 0 x0 [0, 0, 0, 0, 0, 0, 0, 0, 0]).bind fun z1 =>
 (zH5 k z1).bind fun x1 =>
 some x1
def yMq (k : Nat) (rec : Int → Int → List Int → Option (List Int)) (s1 s5 : Int) (r0 : List Int) : Option (List Int) :=
 bif decide (s5 < (r0.length : Int)) then (bif zE s5 r0.length then (bif zE s5 r0.length then (rec s1 (zA (s5 + 1)) (r0.set s5.toNat (zA ((r0.getD s5.toNat 0) * s1))))
   else none)
  else none)
 else some r0
def zV3 (k : Nat) : Nat → Int → Int → List Int → Option (List Int) := vX (fun _ _ _ => none) (yMq k)
def zVs (k : Nat) (a0 : List Int) (a1 : Int) : Option (List Int) :=
 (zV3 k k a1 0 a0).bind fun z =>
 (zH5 k z).bind fun x0 =>
 some x0
abbrev qPj : Type := Int → Int → Int → List Int → Option (List Int)
def qVp (k : Nat) (rec : qPj) (s1 s6 s7 : Int) (r0 : List Int) : Option (List Int) :=
 bif decide (s7 ≥ 0) then (bif zE s7 r0.length then (bif !(decide (s1 = 0)) then (bif zE s7 r0.length then (let y0 : List Int := (r0.set s7.toNat (zA (Int.tdiv (zA ((shl .i64 s6 16) + (r0.getD s7.toNat 0))) s1)))
     bif !(decide (s1 = 0)) then (rec s1 (Int.tmod (zA ((shl .i64 s6 16) + (r0.getD s7.toNat 0))) s1) (zA (s7 - 1)) y0)
     else none)
    else none)
   else none)
  else none)
 else some r0
def zR6 (k : Nat) : Nat → qPj := vX (fun _ _ _ _ => none) (qVp k)
abbrev qIb : Type := Int → List Int → Option ((List Int) ⊕ wF)
def yIr (k : Nat) (rec : qIb) (s9 : Int) (r0 : List Int) : Option ((List Int) ⊕ wF) :=
 bif decide (s9 < (r0.length : Int)) then (bif zE s9 r0.length then (bif !(decide ((r0.getD s9.toNat 0) = 0)) then some (.inr (0, false))
   else rec (zA (s9 + 1)) r0)
  else none)
 else some (.inl r0)
def zMb (k : Nat) : Nat → qIb := vX (fun _ _ => none) (yIr k)
def qAk (k : Nat) (a0 : List Int) (a1 : Int) : Option wF :=
 (zR6 k k a1 0 (zA ((a0.length : Int) - 1)) a0).bind fun z =>
 (zMb k k 4 z).bind fun z1 =>
 match z1 with
 | .inl z2 => bif zE 3 z2.length then (bif decide ((z2.getD 3 0) ≥ 32768) then some (0, false)
   else bif zE 3 z2.length then (bif zE 2 z2.length then (bif zE 1 z2.length then (bif zE 0 z2.length then some ((bor .i64 (bor .i64 (bor .i64 (shl .i64 (z2.getD 3 0) 48) (shl .i64 (z2.getD 2 0) 32)) (shl .i64 (z2.getD 1 0) 16)) (z2.getD 0 0)), true)
      else none)
     else none)
    else none)
   else none)
  else none
 | .inr z3 => some (z3.1, z3.2)
def zTr (k : Nat) (a0 a1 a2 : Int) : Option wF :=
 bif decide (a0 < 0) then some (0, false)
 else bif decide (a1 < 0) then some (0, false)
 else bif decide (a2 < 0) then some (0, false)
 else bif decide (a2 > 10000) then some (0, false)
 else (zWi k a0 a1).bind fun x0 =>
 (zVs k x0 (zA (10000 - a2))).bind fun x1 =>
 (qAk k x1 10000).bind fun x2 =>
 some (x2.1, x2.2)
def zVq (k : Nat) (a0 a1 : Int) : Option wF :=
 bif decide (a1 > 0) then (bif decide (a0 > (zA (9223372036854775807 - a1))) then some (0, false)
  else bif decide (a1 < 0) then (bif decide (a0 < (zA ((-9223372036854775808) - a1))) then some (0, false)
   else some ((zA (a0 + a1)), true))
  else some ((zA (a0 + a1)), true))
 else bif decide (a1 < 0) then (bif decide (a0 < (zA ((-9223372036854775808) - a1))) then some (0, false)
  else some ((zA (a0 + a1)), true))
 else some ((zA (a0 + a1)), true)
abbrev qGz : Type := List vQ → List Int → List Int → Int → Int → Option (Int ⊕ wF)
def zNx (k : Nat) (rec : qGz) (s0 : List vQ) (s1 s2 : List Int) (s8 s9 : Int) : Option (Int ⊕ wF) :=
 bif decide (s9 < (s0.length : Int)) then (bif zE s9 s1.length then (bif zE s9 s2.length then (bif zE s9 s0.length then ((zTr k (s1.getD s9.toNat 0) (s2.getD s9.toNat 0) (s0.getD s9.toNat (0, 0)).2).bind fun x0 =>
     (zVq k s8 x0.1).bind fun x1 =>
     bif !x0.2 then some (.inr (0, false))
     else bif !x1.2 then some (.inr (0, false))
     else rec s0 s1 s2 x1.1 (zA (s9 + 1)))
    else none)
   else none)
  else none)
 else some (.inl s8)
def zSl (k : Nat) : Nat → qGz := vX (fun _ _ _ _ _ => none) (zNx k)
def zWz (k : Nat) (a0 : List vQ) (a1 a2 : List Int) : Option wF :=
 bif !(decide ((a1.length : Int) = (a0.length : Int))) then some (0, false)
 else bif !(decide ((a2.length : Int) = (a0.length : Int))) then some (0, false)
 else (zSl k k a0 a1 a2 0 0).bind fun z =>
 match z with
 | .inl z1 => some (z1, true)
 | .inr z2 => some (z2.1, z2.2)
def qD1 (k : Nat) (a0 : Int) : Option Bool :=
 (yQ k a0 0 1048576).bind fun x0 =>
 some (!x0)
abbrev qHc : Type := List Int → Int → Int → Option (Unit ⊕ Int)
def zJn (k : Nat) (rec : qHc) (s0 : List Int) (s7 s8 : Int) : Option (Unit ⊕ Int) :=
 bif decide (s8 < s7) then (bif zE s8 s0.length then ((qD1 k (s0.getD s8.toNat 0)).bind fun x0 =>
   bif x0 then some (.inr s8)
   else rec s0 s7 (zA (s8 + 1)))
  else none)
 else some (.inl ())
def zI9 (k : Nat) : Nat → qHc
 | 0, _, _, _ => none
 | n + 1, s0, s7, s8 => zJn k (zI9 k n) s0 s7 s8
def qNc (k : Nat) (a0 : List Int) : Option Int :=
 (zI9 k k a0 (a0.length : Int) 0).bind fun z =>
 match z with
 | .inl z1 => some (-1)
 | .inr z2 => some z2
def zR5 (k : Nat) (a0 : List Int) : Option Bool :=
 (qNc k a0).bind fun x0 =>
 some (decide (x0 ≥ 0))
def qH3 (k : Nat) (a0 : Int) : Option Bool :=
 some (decide (a0 > 1099511627776))
abbrev qCb : Type := List Int → Int → Int → Option (Unit ⊕ Int)
def zNd (k : Nat) (rec : qCb) (s0 : List Int) (s7 s8 : Int) : Option (Unit ⊕ Int) :=
 bif decide (s8 < s7) then (bif zE s8 s0.length then ((qH3 k (s0.getD s8.toNat 0)).bind fun x0 =>
   bif x0 then some (.inr s8)
   else rec s0 s7 (zA (s8 + 1)))
  else none)
 else some (.inl ())
def zHl (k : Nat) : Nat → qCb
 | 0, _, _, _ => none
 | n + 1, s0, s7, s8 => zNd k (zHl k n) s0 s7 s8
def qPg (k : Nat) (a0 : List Int) : Option Int :=
 (zHl k k a0 (a0.length : Int) 0).bind fun z =>
 match z with
 | .inl z1 => some (-1)
 | .inr z2 => some z2
def zXf (k : Nat) (a0 : List Int) : Option Bool :=
 (qPg k a0).bind fun x0 =>
 some (decide (x0 ≥ 0))
abbrev qDi : Type := List (List Int) → Int → Int → yV → vH → Option (Unit ⊕ Bool)
def zOo (k : Nat) (rec : qDi) (s28 : List (List Int)) (s29 s30 : Int) (b0 : yV) (b1 : vH) : Option (Unit ⊕ Bool) :=
 bif decide (s30 < s29) then (bif zE s30 s28.length then ((zEh k b0.2.1 b1.2.2.2.2.2.1 (s28.getD s30.toNat [])).bind fun x1 =>
   bif !x1.2 then some (.inr false)
   else bif decide (x1.1 > 1152921504606846976) then some (.inr false)
   else bif zE s30 b1.2.1.length then (bif !(decide (x1.1 = (b1.2.1.getD s30.toNat (0, 0, 0)).2.1)) then some (.inr false)
    else (zXf k (s28.getD s30.toNat [])).bind fun x2 =>
    bif x2 then some (.inr false)
    else rec s28 s29 (zA (s30 + 1)) b0 b1)
   else none)
  else none)
 else some (.inl ())
def zGg (k : Nat) : Nat → qDi := vX (fun _ _ _ _ _ => none) (zOo k)
def zRf (k : Nat) (a0 : yV) (a1 : vH) : Option Bool :=
 bif !(decide ((a1.2.2.2.2.2.1.length : Int) = (a0.2.1.length : Int))) then some false
 else bif !(decide ((a1.2.2.2.2.2.2.1.length : Int) = a0.1)) then some false
 else (zR5 k a1.2.2.2.2.2.1).bind fun x0 =>
 bif x0 then some false
 else (zGg k k a1.2.2.2.2.2.2.1 (a1.2.2.2.2.2.2.1.length : Int) 0 a0 a1).bind fun z =>
 match z with
 | .inl z1 => some true
 | .inr z2 => some z2
abbrev qGr : Type := List zD → Int → Option (Unit ⊕ Bool)
def zTa (k : Nat) (rec : qGr) (s0 : List zD) (s5 : Int) : Option (Unit ⊕ Bool) :=
 bif decide (s5 > 0) then (bif zE s5 s0.length then (bif zE (zA (s5 - 1)) s0.length then ((zMf k (s0.getD s5.toNat (0, 0, 0, 0, 0, 0, 0)).1 (s0.getD s5.toNat (0, 0, 0, 0, 0, 0, 0)).2.1 (s0.getD s5.toNat (0, 0, 0, 0, 0, 0, 0)).2.2.1 (s0.getD s5.toNat (0, 0, 0, 0, 0, 0, 0)).2.2.2.1 (s0.getD s5.toNat (0, 0, 0, 0, 0, 0, 0)).2.2.2.2.1 (s0.getD s5.toNat (0, 0, 0, 0, 0, 0, 0)).2.2.2.2.2.1 (s0.getD s5.toNat (0, 0, 0, 0, 0, 0, 0)).2.2.2.2.2.2 (s0.getD (zA (s5 - 1)).toNat (0, 0, 0, 0, 0, 0, 0)).1 (s0.getD (zA (s5 - 1)).toNat (0, 0, 0, 0, 0, 0, 0)).2.1 (s0.getD (zA (s5 - 1)).toNat (0, 0, 0, 0, 0, 0, 0)).2.2.1 (s0.getD (zA (s5 - 1)).toNat (0, 0, 0, 0, 0, 0, 0)).2.2.2.1 (s0.getD (zA (s5 - 1)).toNat (0, 0, 0, 0, 0, 0, 0)).2.2.2.2.1 (s0.getD (zA (s5 - 1)).toNat (0, 0, 0, 0, 0, 0, 0)).2.2.2.2.2.1 (s0.getD (zA (s5 - 1)).toNat (0, 0, 0, 0, 0, 0, 0)).2.2.2.2.2.2).bind fun x0 =>
    bif decide (x0 < 0) then some (.inr false)
    else rec s0 (zA (s5 - 1)))
   else none)
  else none)
 else some (.inl ())
def zRw (k : Nat) : Nat → qGr := vX (fun _ _ => none) (zTa k)
def zY4 (k : Nat) (a0 : List zD) : Option Bool :=
 (zRw k k a0 (zA ((a0.length : Int) - 1))).bind fun z =>
 match z with
 | .inl z1 => some true
 | .inr z2 => some z2
abbrev zZx : Type := (List zD) ⊕ Bool
abbrev qN0 : Type := List zD → List zD → Int → Int → Option zZx
def zLi (k : Nat) (rec : qN0) (s0 s5 : List zD) (s6 s7 : Int) : Option zZx :=
 bif decide (s7 < s6) then (bif zE s7 s5.length then ((zCw k s0 (s5.getD s7.toNat (0, 0, 0, 0, 0, 0, 0)).1).bind fun x0 =>
   bif !(decide (x0 = s7)) then some (.inr false)
   else rec s0 s5 s6 (zA (s7 + 1)))
  else none)
 else some (.inl s0)
def zHt (k : Nat) : Nat → qN0
 | 0, _, _, _, _ => none
 | n + 1, s0, s5, s6, s7 => zLi k (zHt k n) s0 s5 s6 s7
def zR1 (k : Nat) (a0 : List zD) : Option Bool :=
 (zHt k k a0 a0 (a0.length : Int) 0).bind fun z =>
 match z with
 | .inl z1 => bif decide ((z1.length : Int) ≤ 40) then ((zY4 k z1).bind fun x1 =>
   some x1)
  else some false
 | .inr z2 => some z2
abbrev qGd : Type := List Int → Int → List Int → Int → Int → Option ((List Int) ⊕ Bool)
def zK1 (k : Nat) (rec : qGd) (s0 : List Int) (s3 : Int) (s6 : List Int) (s7 s8 : Int) : Option ((List Int) ⊕ Bool) :=
 bif decide (s8 < s7) then (bif zE s8 s6.length then (bif decide ((s6.getD s8.toNat 0) ≤ s3) then some (.inr false)
   else rec s0 (s6.getD s8.toNat 0) s6 s7 (zA (s8 + 1)))
  else none)
 else some (.inl s0)
def zPd (k : Nat) : Nat → qGd := vX (fun _ _ _ _ _ => none) (zK1 k)
def zPb (k : Nat) (a0 : List Int) : Option Bool :=
 (zPd k k a0 0 a0 (a0.length : Int) 0).bind fun z =>
 match z with
 | .inl z1 => some (decide ((z1.length : Int) ≤ 200))
 | .inr z2 => some z2
def zZs (k : Nat) (a0 : List Int) (a1 : Int) : Option Bool :=
 (zKp k a0 a1).bind fun x0 =>
 some x0.2
def zS8 (k : Nat) (a0 : zD) (a1 : vH) : Option Bool :=
 (zOl k a1.2.1 a1.2.2.1 a1.2.2.2.1 a1.2.2.2.2.1 a0.1 a0.2.1 a0.2.2.1 a0.2.2.2.1 a0.2.2.2.2.1 a0.2.2.2.2.2.1 a0.2.2.2.2.2.2).bind fun x0 =>
 bif !x0 then some true
 else bif decide (a0.2.2.2.2.2.1 < 0) then some true
 else (yQ k a0.2.2.2.2.2.2 a0.2.2.2.2.2.1 1048576).bind fun x1 =>
 bif !x1 then some true
 else (zZs k a1.2.2.2.2.2.2.2.2.1 a0.1).bind fun x2 =>
 some (!x2)
abbrev qI9 : Type := List zD → Int → Int → Int → List zO → List (List Int) → List Int → List (List Int) → List Int → List (List Int) → List zD → List Int → Int → Bool → Option (Unit ⊕ Int)
def zNm (k : Nat) (rec : qI9) (s0 : List zD) (s7 s8 b0_0 : Int) (b0_1 : List zO) (b0_2 : List (List Int)) (b0_3 : List Int) (b0_4 : List (List Int)) (b0_5 : List Int) (b0_6 : List (List Int)) (b0_7 : List zD) (b0_8 : List Int) (b0_9 : Int) (b0_10 : Bool) : Option (Unit ⊕ Int) :=
 bif decide (s8 < s7) then (bif zE s8 s0.length then ((zS8 k (s0.getD s8.toNat (0, 0, 0, 0, 0, 0, 0)) (b0_0, b0_1, b0_2, b0_3, b0_4, b0_5, b0_6, b0_7, b0_8, b0_9, b0_10)).bind fun x0 =>
   bif x0 then some (.inr s8)
   else rec s0 s7 (zA (s8 + 1)) b0_0 b0_1 b0_2 b0_3 b0_4 b0_5 b0_6 b0_7 b0_8 b0_9 b0_10)
  else none)
 else some (.inl ())
def zHd (k : Nat) : Nat → qI9
 | 0, _, _, _, _, _, _, _, _, _, _, _, _, _, _ => none
 | n + 1, s0, s7, s8, b0_0, b0_1, b0_2, b0_3, b0_4, b0_5, b0_6, b0_7, b0_8, b0_9, b0_10 => zNm k (zHd k n) s0 s7 s8 b0_0 b0_1 b0_2 b0_3 b0_4 b0_5 b0_6 b0_7 b0_8 b0_9 b0_10
def qE5 (k : Nat) (a0 : List zD) (vMb : Int) (vMc : List zO) (vMd : List (List Int)) (vMe : List Int) (vMf : List (List Int)) (vMg : List Int) (vMh : List (List Int)) (vMi : List zD) (vMj : List Int) (vMk : Int) (vMl : Bool) : Option Int :=
 (zHd k k a0 (a0.length : Int) 0 vMb vMc vMd vMe vMf vMg vMh vMi vMj vMk vMl).bind fun z =>
 match z with
 | .inl z1 => some (-1)
 | .inr z2 => some z2
def zX7 (k : Nat) (a0 : List zD) (vMb : Int) (vMc : List zO) (vMd : List (List Int)) (vMe : List Int) (vMf : List (List Int)) (vMg : List Int) (vMh : List (List Int)) (vMi : List zD) (vMj : List Int) (vMk : Int) (vMl : Bool) : Option Bool :=
 (qE5 k a0 vMb vMc vMd vMe vMf vMg vMh vMi vMj vMk vMl).bind fun x0 =>
 some (decide (x0 ≥ 0))
def zQn (k : Nat) (a0 : vH) : Option Bool :=
 (zR1 k a0.2.2.2.2.2.2.2.1).bind fun x0 =>
 bif x0 then ((zPb k a0.2.2.2.2.2.2.2.2.1).bind fun x1 =>
  bif x1 then ((zX7 k a0.2.2.2.2.2.2.2.1 a0.1 a0.2.1 a0.2.2.1 a0.2.2.2.1 a0.2.2.2.2.1 a0.2.2.2.2.2.1 a0.2.2.2.2.2.2.1 a0.2.2.2.2.2.2.2.1 a0.2.2.2.2.2.2.2.2.1 a0.2.2.2.2.2.2.2.2.2.1 a0.2.2.2.2.2.2.2.2.2.2).bind fun x2 =>
   some (!x2))
  else some false)
 else some false
abbrev zU5 : Type := yV × vH × (List Int)
abbrev qMi : Type := List zO → Int → Int → yV → vH → List Int → Option zU5
def zMt (k : Nat) (rec : qMi) (s44 : List zO) (s45 s46 : Int) (b0 : yV) (b1 : vH) (r2 : List Int) : Option zU5 :=
 bif decide (s46 < s45) then (bif zE s46 s44.length then (bif qR (r2.length + 1) 8 then (rec s44 s45 (zA (s46 + 1)) b0 b1 (r2 ++ [(s44.getD s46.toNat (0, 0, 0)).1]))
   else none)
  else none)
 else some (b0, b1, r2)
def zJk (k : Nat) : Nat → qMi := vX (fun _ _ _ _ _ _ => none) (zMt k)
def zQr (k : Nat) (a0 : yV) (a1 : vH) : Option Bool :=
 (yQ k a1.1 0 a0.2.2.2.1).bind fun x0 =>
 bif !x0 then some false
 else (zIc k a1.2.1 a1.2.2.1 a1.2.2.2.1 a1.2.2.2.2.1).bind fun x1 =>
 bif !x1 then some false
 else bif !(decide ((a1.2.1.length : Int) = a0.1)) then some false
 else (zRf k a0 a1).bind fun x2 =>
 bif !x2 then some false
 else (zQn k a1).bind fun x3 =>
 bif !x3 then some false
 else (zJk k k a1.2.1 (a1.2.1.length : Int) 0 a0 a1 []).bind fun z =>
 (zHz k z.2.2).bind fun x4 =>
 bif !x4.2 then some false
 else bif !(decide (x4.1 = z.2.1.2.2.2.2.2.2.2.2.2.1)) then some false
 else (yQ k x4.1 0 1152921504606846976).bind fun x5 =>
 bif !x5 then some false
 else (zNy k z.1.1 z.1.2.1 z.1.2.2.1 z.1.2.2.2.1 z.1.2.2.2.2 z.2.1.1).bind fun x6 =>
 bif zBj z.2.1.2.2.2.2.2.2.2.2.2.2 x6 then (bif !z.2.1.2.2.2.2.2.2.2.2.2.2 then some true
  else some (decide ((z.2.1.2.2.2.2.2.2.2.1.length : Int) = 0)))
 else some false
abbrev zTf : Type := (yV × vH) ⊕ Bool
abbrev qH4 : Type := Int → yV → vH → Option zTf
def zK5 (k : Nat) (rec : qH4) (s5 : Int) (b0 : yV) (b1 : vH) : Option zTf :=
 bif decide (s5 < (b1.2.2.2.2.2.1.length : Int)) then (bif zE s5 b1.2.2.2.2.2.1.length then (bif decide ((b1.2.2.2.2.2.1.getD s5.toNat 0) < 0) then some (.inr false)
   else bif zE s5 b1.2.2.2.2.2.1.length then (bif decide ((b1.2.2.2.2.2.1.getD s5.toNat 0) > 1048576) then some (.inr false)
    else rec (zA (s5 + 1)) b0 b1)
   else none)
  else none)
 else some (.inl (b0, b1))
def zGv (k : Nat) : Nat → qH4 := vX (fun _ _ _ => none) (zK5 k)
abbrev qAd : Type := (Int × yV × vH) ⊕ Bool
abbrev qNs : Type := Int → Int → yV → vH → Option qAd
def zNk (k : Nat) (rec : qNs) (s6 s7 : Int) (b0 : yV) (b1 : vH) : Option qAd :=
 bif zE s6 b1.2.2.2.2.2.2.1.length then (bif decide (s7 < ((b1.2.2.2.2.2.2.1.getD s6.toNat []).length : Int)) then (bif zE s6 b1.2.2.2.2.2.2.1.length then (bif zE s7 (b1.2.2.2.2.2.2.1.getD s6.toNat []).length then (bif decide (((b1.2.2.2.2.2.2.1.getD s6.toNat []).getD s7.toNat 0) < 0) then some (.inr false)
     else bif zE s6 b1.2.2.2.2.2.2.1.length then (bif zE s7 (b1.2.2.2.2.2.2.1.getD s6.toNat []).length then (bif decide (((b1.2.2.2.2.2.2.1.getD s6.toNat []).getD s7.toNat 0) > 1099511627776) then some (.inr false)
       else rec s6 (zA (s7 + 1)) b0 b1)
      else none)
     else none)
    else none)
   else none)
  else some (.inl (s6, b0, b1)))
 else none
def zHo (k : Nat) : Nat → qNs := vX (fun _ _ _ _ => none) (zNk k)
abbrev qB3 : Type := Int → yV → vH → Option (Unit ⊕ Bool)
def zLs (k : Nat) (rec : qB3) (s6 : Int) (b0 : yV) (b1 : vH) : Option (Unit ⊕ Bool) :=
 bif decide (s6 < b0.1) then (bif zE s6 b1.2.2.2.2.2.2.1.length then (bif !(decide (((b1.2.2.2.2.2.2.1.getD s6.toNat []).length : Int) = (b0.2.1.length : Int))) then some (.inr false)
   else (zHo k k s6 0 b0 b1).bind fun z2 =>
   match z2 with
   | .inl z3 => bif zE z3.1 z3.2.2.2.2.2.2.2.2.1.length then ((zWz k z3.2.1.2.1 z3.2.2.2.2.2.2.2.1 (z3.2.2.2.2.2.2.2.2.1.getD z3.1.toNat [])).bind fun x0 =>
     bif !x0.2 then some (.inr false)
     else bif decide (x0.1 > 1152921504606846976) then some (.inr false)
     else bif zE z3.1 z3.2.2.2.1.length then (bif !(decide ((z3.2.2.2.1.getD z3.1.toNat (0, 0, 0)).2.1 = x0.1)) then some (.inr false)
      else rec (zA (z3.1 + 1)) z3.2.1 z3.2.2)
     else none)
    else none
   | .inr z4 => some (.inr z4))
  else none)
 else some (.inl ())
def zFq (k : Nat) : Nat → qB3 := vX (fun _ _ _ => none) (zLs k)
def zO5 (k : Nat) (a0 : yV) (a1 : vH) : Option Bool :=
 bif !(decide ((a1.2.2.2.2.2.1.length : Int) = (a0.2.1.length : Int))) then some false
 else bif !(decide ((a1.2.2.2.2.2.2.1.length : Int) = a0.1)) then some false
 else (zGv k k 0 a0 a1).bind fun z =>
 match z with
 | .inl z1 => (zFq k k 0 z1.1 z1.2).bind fun z5 =>
  match z5 with
  | .inl z6 => some true
  | .inr z7 => some z7
 | .inr z8 => some z8
abbrev zX9 : Type := (List zD) ⊕ Bool
abbrev qLf : Type := List zD → Int → Option zX9
def zNg (k : Nat) (rec : qLf) (s0 : List zD) (s3 : Int) : Option zX9 :=
 bif decide (s3 < (s0.length : Int)) then (bif zE s3 s0.length then ((zTm k s0 (s0.getD s3.toNat (0, 0, 0, 0, 0, 0, 0)).1).bind fun x0 =>
   bif !(decide (x0 = s3)) then some (.inr false)
   else bif decide (s3 > 0) then (bif zE (zA (s3 - 1)) s0.length then (bif zE s3 s0.length then ((zXc k (s0.getD (zA (s3 - 1)).toNat (0, 0, 0, 0, 0, 0, 0)).1 (s0.getD (zA (s3 - 1)).toNat (0, 0, 0, 0, 0, 0, 0)).2.1 (s0.getD (zA (s3 - 1)).toNat (0, 0, 0, 0, 0, 0, 0)).2.2.1 (s0.getD (zA (s3 - 1)).toNat (0, 0, 0, 0, 0, 0, 0)).2.2.2.1 (s0.getD (zA (s3 - 1)).toNat (0, 0, 0, 0, 0, 0, 0)).2.2.2.2.1 (s0.getD (zA (s3 - 1)).toNat (0, 0, 0, 0, 0, 0, 0)).2.2.2.2.2.1 (s0.getD (zA (s3 - 1)).toNat (0, 0, 0, 0, 0, 0, 0)).2.2.2.2.2.2 (s0.getD s3.toNat (0, 0, 0, 0, 0, 0, 0)).1 (s0.getD s3.toNat (0, 0, 0, 0, 0, 0, 0)).2.1 (s0.getD s3.toNat (0, 0, 0, 0, 0, 0, 0)).2.2.1 (s0.getD s3.toNat (0, 0, 0, 0, 0, 0, 0)).2.2.2.1 (s0.getD s3.toNat (0, 0, 0, 0, 0, 0, 0)).2.2.2.2.1 (s0.getD s3.toNat (0, 0, 0, 0, 0, 0, 0)).2.2.2.2.2.1 (s0.getD s3.toNat (0, 0, 0, 0, 0, 0, 0)).2.2.2.2.2.2).bind fun x1 =>
      bif !x1 then some (.inr false)
      else rec s0 (zA (s3 + 1)))
     else none)
    else none)
   else rec s0 (zA (s3 + 1)))
  else none)
 else some (.inl s0)
def zGa (k : Nat) : Nat → qLf
 | 0, _, _ => none
 | n + 1, s0, s3 => zNg k (zGa k n) s0 s3
def zP2 (k : Nat) (a0 : List zD) : Option Bool :=
 (zGa k k a0 0).bind fun z =>
 match z with
 | .inl z1 => some (decide ((z1.length : Int) ≤ 40))
 | .inr z2 => some z2
abbrev qIg : Type := List Int → Int → Option ((List Int) ⊕ Bool)
def zLc (k : Nat) (rec : qIg) (s0 : List Int) (s3 : Int) : Option ((List Int) ⊕ Bool) :=
 bif decide (s3 < (s0.length : Int)) then (bif zE s3 s0.length then (bif decide ((s0.getD s3.toNat 0) < 1) then some (.inr false)
   else bif decide (s3 > 0) then (bif zE s3 s0.length then (bif zE (zA (s3 - 1)) s0.length then (bif decide ((s0.getD s3.toNat 0) ≤ (s0.getD (zA (s3 - 1)).toNat 0)) then some (.inr false)
      else rec s0 (zA (s3 + 1)))
     else none)
    else none)
   else rec s0 (zA (s3 + 1)))
  else none)
 else some (.inl s0)
def zHq (k : Nat) : Nat → qIg := vX (fun _ _ => none) (zLc k)
def zSm (k : Nat) (a0 : List Int) : Option Bool :=
 (zHq k k a0 0).bind fun z =>
 match z with
 | .inl z1 => some (decide ((z1.length : Int) ≤ 200))
 | .inr z2 => some z2
abbrev qMm : Type := Int → vH → Option (Unit ⊕ Bool)
def zM1 (k : Nat) (rec : qMm) (s3 : Int) (b0 : vH) : Option (Unit ⊕ Bool) :=
 bif decide (s3 < (b0.2.2.2.2.2.2.2.1.length : Int)) then (bif zE s3 b0.2.2.2.2.2.2.2.1.length then ((qAt k b0.2.1 b0.2.2.1 b0.2.2.2.1 b0.2.2.2.2.1 (b0.2.2.2.2.2.2.2.1.getD s3.toNat (0, 0, 0, 0, 0, 0, 0)).1 (b0.2.2.2.2.2.2.2.1.getD s3.toNat (0, 0, 0, 0, 0, 0, 0)).2.1 (b0.2.2.2.2.2.2.2.1.getD s3.toNat (0, 0, 0, 0, 0, 0, 0)).2.2.1 (b0.2.2.2.2.2.2.2.1.getD s3.toNat (0, 0, 0, 0, 0, 0, 0)).2.2.2.1 (b0.2.2.2.2.2.2.2.1.getD s3.toNat (0, 0, 0, 0, 0, 0, 0)).2.2.2.2.1 (b0.2.2.2.2.2.2.2.1.getD s3.toNat (0, 0, 0, 0, 0, 0, 0)).2.2.2.2.2.1 (b0.2.2.2.2.2.2.2.1.getD s3.toNat (0, 0, 0, 0, 0, 0, 0)).2.2.2.2.2.2).bind fun x2 =>
   bif !x2 then some (.inr false)
   else bif decide ((b0.2.2.2.2.2.2.2.1.getD s3.toNat (0, 0, 0, 0, 0, 0, 0)).2.2.2.2.2.1 < 0) then some (.inr false)
   else bif decide ((b0.2.2.2.2.2.2.2.1.getD s3.toNat (0, 0, 0, 0, 0, 0, 0)).2.2.2.2.2.2 < (b0.2.2.2.2.2.2.2.1.getD s3.toNat (0, 0, 0, 0, 0, 0, 0)).2.2.2.2.2.1) then some (.inr false)
   else bif decide ((b0.2.2.2.2.2.2.2.1.getD s3.toNat (0, 0, 0, 0, 0, 0, 0)).2.2.2.2.2.2 > 1048576) then some (.inr false)
   else (zXq k b0.2.2.2.2.2.2.2.2.1 (b0.2.2.2.2.2.2.2.1.getD s3.toNat (0, 0, 0, 0, 0, 0, 0)).1).bind fun x3 =>
   bif !x3 then some (.inr false)
   else rec (zA (s3 + 1)) b0)
  else none)
 else some (.inl ())
def zGj (k : Nat) : Nat → qMm := vX (fun _ _ => none) (zM1 k)
def zQe (k : Nat) (a0 : vH) : Option Bool :=
 (zP2 k a0.2.2.2.2.2.2.2.1).bind fun x0 =>
 bif !x0 then some false
 else (zSm k a0.2.2.2.2.2.2.2.2.1).bind fun x1 =>
 bif !x1 then some false
 else (zGj k k 0 a0).bind fun z =>
 match z with
 | .inl z1 => some true
 | .inr z2 => some z2
abbrev zUo : Type := yV × vH × (List Int)
abbrev qBr : Type := Int → yV → vH → List Int → Option zUo
def zL9 (k : Nat) (rec : qBr) (s6 : Int) (b0 : yV) (b1 : vH) (r2 : List Int) : Option zUo :=
 bif decide (s6 < b0.1) then (bif zE s6 b1.2.1.length then (bif qR (r2.length + 1) 8 then (let y0 : List Int := (r2 ++ [(b1.2.1.getD s6.toNat (0, 0, 0)).1])
    rec (zA (s6 + 1)) b0 b1 y0)
   else none)
  else none)
 else some (b0, b1, r2)
def zHy (k : Nat) : Nat → qBr := vX (fun _ _ _ _ => none) (zL9 k)
def zWf (k : Nat) (a0 : yV) (a1 : vH) : Option Bool :=
 bif decide (a1.1 < 0) then some false
 else bif decide (a1.1 > a0.2.2.2.1) then some false
 else (zH0 k a1.2.1 a1.2.2.1 a1.2.2.2.1 a1.2.2.2.2.1).bind fun x0 =>
 bif !x0 then some false
 else bif !(decide ((a1.2.1.length : Int) = a0.1)) then some false
 else (zO5 k a0 a1).bind fun x1 =>
 bif !x1 then some false
 else (zQe k a1).bind fun x2 =>
 bif !x2 then some false
 else (zHy k k 0 a0 a1 []).bind fun z =>
 (zP6 k z.2.2).bind fun x3 =>
 bif x3.2 then (bif decide (x3.1 = z.2.1.2.2.2.2.2.2.2.2.2.1) then (bif decide (x3.1 ≥ 0) then (bif decide (x3.1 ≤ 1152921504606846976) then (bif zBj z.2.1.2.2.2.2.2.2.2.2.2.2 (decide (z.2.1.1 = z.1.2.2.2.1)) then (bif !z.2.1.2.2.2.2.2.2.2.2.2.2 then some true
      else some (decide ((z.2.1.2.2.2.2.2.2.2.1.length : Int) = 0)))
     else some false)
    else some false)
   else some false)
  else some false)
 else some false
def zSx (k : Nat) (a0 : Int) : Option yV :=
 bif decide ((qV .i64 a0 3) = 1) then some (4, [(100, 1000), (7, 0)], 12, 20, 100)
 else bif decide ((qV .i64 a0 3) = 2) then some (3, [], 20, 20, 4)
 else bif decide ((qV .i64 a0 3) = 3) then some (3, [(100, 1000), (7, 0)], 0, 6, 1)
 else some (3, [(100, 1000), (7, 0)], 12, 20, 4)
def zU1 (k : Nat) (a0 : yV) (a1 : vH) (a2 : yP) : Option (vH × (List yP) × Int) :=
 (zYy k a0 a1 a2).bind fun x0 =>
 bif !(decide (x0.2.2 = 0)) then some (a1, [], x0.2.2)
 else some (x0.1, x0.2.1, x0.2.2)
def qH8 (k : Nat) (a0 : List Int) (vLe : List zO) (vLf : List (List Int)) (vLg : List Int) (vLh : List (List Int)) : Option Bool :=
 some (!(decide ((a0.length : Int) = (vLh.length : Int))))
abbrev qM3 : Type := List (List Int) → Int → Int → List zO → List (List Int) → List Int → List (List Int) → Option (Unit ⊕ Int)
def zKo (k : Nat) (rec : qM3) (s0 : List (List Int)) (s7 s8 : Int) (b0_0 : List zO) (b0_1 : List (List Int)) (b0_2 : List Int) (b0_3 : List (List Int)) : Option (Unit ⊕ Int) :=
 bif decide (s8 < s7) then (bif zE s8 s0.length then ((qH8 k (s0.getD s8.toNat []) b0_0 b0_1 b0_2 b0_3).bind fun x0 =>
   bif x0 then some (.inr s8)
   else rec s0 s7 (zA (s8 + 1)) b0_0 b0_1 b0_2 b0_3)
  else none)
 else some (.inl ())
def zQy (k : Nat) : Nat → qM3
 | 0, _, _, _, _, _, _, _ => none
 | n + 1, s0, s7, s8, b0_0, b0_1, b0_2, b0_3 => zKo k (zQy k n) s0 s7 s8 b0_0 b0_1 b0_2 b0_3
def qIx (k : Nat) (a0 : List (List Int)) (vLi : List zO) (vLj : List (List Int)) (vLk : List Int) (vLl : List (List Int)) : Option Int :=
 (zQy k k a0 (a0.length : Int) 0 vLi vLj vLk vLl).bind fun z =>
 match z with
 | .inl z1 => some (-1)
 | .inr z2 => some z2
def zTh (k : Nat) (a0 : List (List Int)) (vLi : List zO) (vLj : List (List Int)) (vLk : List Int) (vLl : List (List Int)) : Option Bool :=
 (qIx k a0 vLi vLj vLk vLl).bind fun x0 =>
 some (decide (x0 ≥ 0))
abbrev zZd : Type := ((List (List Int)) × Int × Int × (List zO) × (List (List Int)) × (List Int) × (List (List Int)) × (List Int)) ⊕ Bool
abbrev qEa : Type := Int → List (List Int) → Int → Int → List Int → Int → Int → List zO → List (List Int) → List Int → List (List Int) → List Int → Option zZd
def zGs (k : Nat) (rec : qEa) (s5 : Int) (s17 : List (List Int)) (s18 s19 : Int) (s24 : List Int) (s25 s26 : Int) (b0_0 : List zO) (b0_1 : List (List Int)) (b0_2 : List Int) (b0_3 : List (List Int)) (r1 : List Int) : Option zZd :=
 bif decide (s26 < s25) then (bif zE s26 s24.length then (bif zE s26 b0_3.length then (bif zE s5 (b0_3.getD s26.toNat []).length then (bif !(decide (((b0_3.getD s26.toNat []).getD s5.toNat 0) = (zA (0 - (s24.getD s26.toNat 0))))) then some (.inr false)
     else bif qR (r1.length + 1) 8 then (rec s5 s17 s18 s19 s24 s25 (zA (s26 + 1)) b0_0 b0_1 b0_2 b0_3 (r1 ++ [(s24.getD s26.toNat 0)]))
     else none)
    else none)
   else none)
  else none)
 else some (.inl (s17, s18, s19, b0_0, b0_1, b0_2, b0_3, r1))
def zDm (k : Nat) : Nat → qEa
 | 0, _, _, _, _, _, _, _, _, _, _, _, _ => none
 | n + 1, s5, s17, s18, s19, s24, s25, s26, b0_0, b0_1, b0_2, b0_3, r1 => zGs k (zDm k n) s5 s17 s18 s19 s24 s25 s26 b0_0 b0_1 b0_2 b0_3 r1
abbrev qJt : Type := List (List Int) → Int → Int → List zO → List (List Int) → List Int → List (List Int) → List Int → Option ((List Int) ⊕ Bool)
def zG1 (k : Nat) (rec : qJt) (s17 : List (List Int)) (s18 s19 : Int) (b0_0 : List zO) (b0_1 : List (List Int)) (b0_2 : List Int) (b0_3 : List (List Int)) (r1 : List Int) : Option ((List Int) ⊕ Bool) :=
 bif decide (s19 < s18) then (bif zE s19 s17.length then ((zDm k k s19 s17 s18 s19 (s17.getD s19.toNat []) ((s17.getD s19.toNat []).length : Int) 0 b0_0 b0_1 b0_2 b0_3 r1).bind fun z =>
   match z with
   | .inl z1 => rec z1.1 z1.2.1 (zA (z1.2.2.1 + 1)) z1.2.2.2.1 z1.2.2.2.2.1 z1.2.2.2.2.2.1 z1.2.2.2.2.2.2.1 z1.2.2.2.2.2.2.2
   | .inr z2 => some (.inr z2))
  else none)
 else some (.inl r1)
def zDf (k : Nat) : Nat → qJt
 | 0, _, _, _, _, _, _, _, _ => none
 | n + 1, s17, s18, s19, b0_0, b0_1, b0_2, b0_3, r1 => zG1 k (zDf k n) s17 s18 s19 b0_0 b0_1 b0_2 b0_3 r1
def zIg (k : Nat) (vKk : List zO) (vKl : List (List Int)) (vKm : List Int) (vKn : List (List Int)) : Option Bool :=
 (zTh k vKn vKk vKl vKm vKn).bind fun x0 =>
 bif x0 then some false
 else (zDf k k vKn (vKn.length : Int) 0 vKk vKl vKm vKn []).bind fun z3 =>
 match z3 with
 | .inl z4 => (zHz k z4).bind fun x1 =>
  bif x1.2 then some (decide (x1.1 = 0))
  else some false
 | .inr z5 => some z5
def zT2 (k : Nat) (vKk : List zO) (vKl : List (List Int)) (vKm : List Int) (vKn : List (List Int)) (a1 : List zD) (a2 : Int) : Option (Int × Int × Int × Int × Int × Int × Int × Bool) :=
 (zSh k vKk vKl vKm vKn a1 a2).bind fun x0 =>
 some (zQo x0 x0.2.2.2.2.2.2.2.2.2.2.2)
def zN9 (k : Nat) (vKw : Int) (vKx : List zO) (vKy : List (List Int)) (vKz : List Int) (vK0 : List (List Int)) (vK1 : List Int) (vK2 : List (List Int)) (vK3 : List zD) (vK4 : List Int) (vK5 : Int) (vK6 : Bool) : Option Bool :=
 (zT2 k vKx vKy vKz vK0 vK3 vKw).bind fun x0 =>
 some (!x0.2.2.2.2.2.2.2)
def zQx (k : Nat) (a0 : yV) (a1 : vH) : Option Bool :=
 (zQr k a0 a1).bind fun x0 =>
 bif x0 then ((zIg k a1.2.1 a1.2.2.1 a1.2.2.2.1 a1.2.2.2.2.1).bind fun x1 =>
  bif x1 then (bif a1.2.2.2.2.2.2.2.2.2.2 then some true
   else (zN9 k a1.1 a1.2.1 a1.2.2.1 a1.2.2.2.1 a1.2.2.2.2.1 a1.2.2.2.2.2.1 a1.2.2.2.2.2.2.1 a1.2.2.2.2.2.2.2.1 a1.2.2.2.2.2.2.2.2.1 a1.2.2.2.2.2.2.2.2.2.1 a1.2.2.2.2.2.2.2.2.2.2).bind fun x2 =>
   some x2)
  else some false)
 else some false
def zZj (k : Nat) (vKw : Int) (vKx : List zO) (vKy : List (List Int)) (vKz : List Int) (vK0 : List (List Int)) (vK1 : List Int) (vK2 : List (List Int)) (vK3 : List zD) (vK4 : List Int) (vK5 : Int) (vK6 : Bool) : Option Bool :=
 (zU0 k vKx vKy vKz vK0 vK3 vKw).bind fun x0 =>
 some (!x0.2.2.2.2.2.2.2)
def yGe (k : Nat) (vKo vKp vKq : Int) : Option Bool :=
 (zQf k vKo vKp).bind fun x0 =>
 bif !x0.2 then some (decide (vKo < 0))
 else some (decide (x0.1 < 0))
abbrev qPf : Type := List zO → Int → Int → List zO → List (List Int) → List Int → List (List Int) → Option (Unit ⊕ Bool)
def yB7 (k : Nat) (rec : qPf) (s15 : List zO) (s16 s17 : Int) (b0_0 : List zO) (b0_1 : List (List Int)) (b0_2 : List Int) (b0_3 : List (List Int)) : Option (Unit ⊕ Bool) :=
 bif decide (s17 < s16) then (bif zE s17 s15.length then (bif zE s17 b0_0.length then (bif decide ((s15.getD s17.toNat (0, 0, 0)).1 < (b0_0.getD s17.toNat (0, 0, 0)).1) then ((yGe k (s15.getD s17.toNat (0, 0, 0)).1 (s15.getD s17.toNat (0, 0, 0)).2.1 (s15.getD s17.toNat (0, 0, 0)).2.2).bind fun x0 =>
     bif x0 then some (.inr false)
     else rec s15 s16 (zA (s17 + 1)) b0_0 b0_1 b0_2 b0_3)
    else rec s15 s16 (zA (s17 + 1)) b0_0 b0_1 b0_2 b0_3)
   else none)
  else none)
 else some (.inl ())
def zXo (k : Nat) : Nat → qPf
 | 0, _, _, _, _, _, _, _ => none
 | n + 1, s15, s16, s17, b0_0, b0_1, b0_2, b0_3 => yB7 k (zXo k n) s15 s16 s17 b0_0 b0_1 b0_2 b0_3
def qO7 (k : Nat) (vKk : List zO) (vKl : List (List Int)) (vKm : List Int) (vKn : List (List Int)) (vLe : List zO) (vLf : List (List Int)) (vLg : List Int) (vLh : List (List Int)) : Option Bool :=
 bif !(decide ((vKk.length : Int) = (vLe.length : Int))) then some false
 else (zXo k k vLe (vLe.length : Int) 0 vKk vKl vKm vKn).bind fun z =>
 match z with
 | .inl z1 => some true
 | .inr z2 => some z2
abbrev zX6 : Type := (List yP) × Int × Int × (List Int) × Int × Int
abbrev qNf : Type := List yP → Int → Int → Int → List Int → Int → Int → List yP → Int → Int → Option zX6
def yOo (k : Nat) (rec : qNf) (s0 : List yP) (s6 s7 s8 : Int) (s11 : List Int) (s12 s13 : Int) (s17 : List yP) (s18 s19 : Int) : Option zX6 :=
 bif decide (s19 < s18) then (bif zE s19 s17.length then (bif !(decide ((s17.getD s19.toNat (0, 0, 0, 0, 0, 0, 0, 0)).2.2.1 = s6)) then (rec s0 s6 s7 s8 s11 s12 s13 s17 s18 (zA (s19 + 1)))
   else bif decide ((s17.getD s19.toNat (0, 0, 0, 0, 0, 0, 0, 0)).2.1 = 18) then (rec s0 s6 (zA (s7 + 1)) s8 s11 s12 s13 s17 s18 (zA (s19 + 1)))
   else bif decide ((s17.getD s19.toNat (0, 0, 0, 0, 0, 0, 0, 0)).2.1 = 20) then (bif decide ((s17.getD s19.toNat (0, 0, 0, 0, 0, 0, 0, 0)).2.1 = 20) then (rec s0 s6 s7 (zA (s8 + 1)) s11 s12 s13 s17 s18 (zA (s19 + 1)))
    else rec s0 s6 s7 s8 s11 s12 s13 s17 s18 (zA (s19 + 1)))
   else bif decide ((s17.getD s19.toNat (0, 0, 0, 0, 0, 0, 0, 0)).2.1 = 21) then (bif decide ((s17.getD s19.toNat (0, 0, 0, 0, 0, 0, 0, 0)).2.1 = 21) then (rec s0 s6 s7 (zA (s8 + 1)) s11 s12 s13 s17 s18 (zA (s19 + 1)))
    else rec s0 s6 s7 s8 s11 s12 s13 s17 s18 (zA (s19 + 1)))
   else bif decide ((s17.getD s19.toNat (0, 0, 0, 0, 0, 0, 0, 0)).2.1 = 22) then (rec s0 s6 s7 (zA (s8 + 1)) s11 s12 s13 s17 s18 (zA (s19 + 1)))
   else rec s0 s6 s7 s8 s11 s12 s13 s17 s18 (zA (s19 + 1)))
  else none)
 else some (s0, s7, s8, s11, s12, s13)
def zY1 (k : Nat) : Nat → qNf
 | 0, _, _, _, _, _, _, _, _, _, _ => none
 | n + 1, s0, s6, s7, s8, s11, s12, s13, s17, s18, s19 => yOo k (zY1 k n) s0 s6 s7 s8 s11 s12 s13 s17 s18 s19
abbrev qFu : Type := List yP → List Int → Int → Int → Option (Unit ⊕ Bool)
def qS6 (k : Nat) (rec : qFu) (s0 : List yP) (s11 : List Int) (s12 s13 : Int) : Option (Unit ⊕ Bool) :=
 bif decide (s13 < s12) then (bif zE s13 s11.length then ((zY1 k k s0 (s11.getD s13.toNat 0) 0 0 s11 s12 s13 s0 (s0.length : Int) 0).bind fun z =>
   bif decide (z.2.1 = 0) then (bif decide (z.2.2.1 = 1) then (rec z.1 z.2.2.2.1 z.2.2.2.2.1 (zA (z.2.2.2.2.2 + 1)))
    else bif decide (z.2.1 = 2) then (bif !(decide (z.2.2.1 = 0)) then some (.inr false)
     else rec z.1 z.2.2.2.1 z.2.2.2.2.1 (zA (z.2.2.2.2.2 + 1)))
    else some (.inr false))
   else bif decide (z.2.1 = 2) then (bif !(decide (z.2.2.1 = 0)) then some (.inr false)
    else rec z.1 z.2.2.2.1 z.2.2.2.2.1 (zA (z.2.2.2.2.2 + 1)))
   else some (.inr false))
  else none)
 else some (.inl ())
def zYw (k : Nat) : Nat → qFu
 | 0, _, _, _, _ => none
 | n + 1, s0, s11, s12, s13 => qS6 k (zYw k n) s0 s11 s12 s13
def qWb (k : Nat) (a0 : List yP) (a1 : List Int) : Option Bool :=
 (zYw k k a0 a1 (a1.length : Int) 0).bind fun z1 =>
 match z1 with
 | .inl z2 => some true
 | .inr z3 => some z3
def qKs (k : Nat) : Option Bool :=
 (zSx k 0).bind fun x0 =>
 (zYm k x0).bind fun x1 =>
 (zSx k 0).bind fun x2 =>
 (zQx k x2 x1).bind fun x3 =>
 bif x3 then ((zIg k x1.2.1 x1.2.2.1 x1.2.2.2.1 x1.2.2.2.2.1).bind fun x4 =>
  bif x4 then ((qO7 k [(0, 0, 0)] [] [] [] [((-1), 0, 0)] [] [] []).bind fun x5 =>
   bif !x5 then ((qO7 k [((-1), 0, 0)] [] [] [] [((-1), 0, 0)] [] [] []).bind fun x6 =>
    bif x6 then ((qWb k [] [5]).bind fun x7 =>
     some (!x7))
    else some false)
   else some false)
  else some false)
 else some false
abbrev zTx : Type := yV × vH
abbrev qNu : Type := List yP → Int → yV → vH → Option zTx
def zNu (k : Nat) (rec : qNu) (s1 : List yP) (s7 : Int) (b0 : yV) (b1 : vH) : Option zTx :=
 bif decide (s7 < (s1.length : Int)) then (bif zE s7 s1.length then ((zU1 k b0 b1 (s1.getD s7.toNat (0, 0, 0, 0, 0, 0, 0, 0))).bind fun x2 =>
   rec s1 (zA (s7 + 1)) b0 x2.1)
  else none)
 else some (b0, b1)
def zIo (k : Nat) : Nat → qNu := vX (fun _ _ _ _ => none) (zNu k)
def zZ9 (k : Nat) (a0 : Int) (a1 : List yP) : Option Bool :=
 bif decide ((a1.length : Int) > 120) then some true
 else (zSx k a0).bind fun x0 =>
 (zYm k x0).bind fun x1 =>
 (zIo k k a1 0 x0 x1).bind fun z =>
 (zQx k z.1 z.2).bind fun x3 =>
 bif x3 then ((zWf k z.1 z.2).bind fun x4 =>
  bif x4 then ((zN9 k z.2.1 z.2.2.1 z.2.2.2.1 z.2.2.2.2.1 z.2.2.2.2.2.1 z.2.2.2.2.2.2.1 z.2.2.2.2.2.2.2.1 z.2.2.2.2.2.2.2.2.1 z.2.2.2.2.2.2.2.2.2.1 z.2.2.2.2.2.2.2.2.2.2.1 z.2.2.2.2.2.2.2.2.2.2.2).bind fun x5 =>
   (zZj k z.2.1 z.2.2.1 z.2.2.2.1 z.2.2.2.2.1 z.2.2.2.2.2.1 z.2.2.2.2.2.2.1 z.2.2.2.2.2.2.2.1 z.2.2.2.2.2.2.2.2.1 z.2.2.2.2.2.2.2.2.2.1 z.2.2.2.2.2.2.2.2.2.2.1 z.2.2.2.2.2.2.2.2.2.2.2).bind fun x6 =>
   bif zBj x5 x6 then ((qKs k).bind fun x7 =>
    some x7)
   else some false)
  else some false)
 else some false
end Go.Ab.Gi
