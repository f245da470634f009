/- part 5 -/
import Derived.Test.YtjjglblggikmeaaGreatGiAbD
set_option linter.unusedVariables false
set_option maxRecDepth 100000
namespace Go.Ab.Gi
abbrev K0q : Type := (List Int) × Bool
abbrev y1q : Go.Ab.Ty := .pair (.int .i64) (.int .i64)
abbrev K2q : Type := Int × (List Int) × Int × (List Int) × Int × Int × Int × Bool × Bool × Int
abbrev K3q : Type := Int × Int × (List Int) × Int × Int
abbrev K4q : Type := Int × Int × Bool × Bool
abbrev K5q : Type := Int × Int × Bool
abbrev K6q : Type := Int × Int × Int × Bool
abbrev K7q : Type := Int × Int × Int × Int × Int × Bool × Bool × Int
abbrev K8q : Type := Int × Int × Int × Int × Int × Int × Int × Int
abbrev K9q : Type := Int × Int × Int × Int × Int × Int × Int
abbrev K10q : Type := Int × Int × Int
abbrev K11q : Type := Int × Int
abbrev K12q : Type := (List K10q) × (List (List Int)) × (List Int) × (List (List Int)) × (List K9q) × (List K9q)
abbrev K13q : Type := (List K10q) × (List (List Int)) × (List Int) × (List (List Int))
abbrev y14q : Go.Ab.Ty := .pair (.int .i64) y1q
abbrev K15q : Type := Bool × Int × Int × Int × Int × Int × Int × Int × Int × Int × Int × Int × Int × Int × Int × (List K10q) × (List (List Int)) × (List Int) × (List (List Int))
abbrev K16q : Type := Int × (List K10q) × (List (List Int)) × (List Int) × (List (List Int)) × (List Int) × (List (List Int)) × (List K9q) × (List Int) × Int × Bool × (List K8q)
abbrev K17q : Type := Int × (List K10q) × (List (List Int)) × (List Int) × (List (List Int)) × (List Int) × (List (List Int)) × (List K9q) × (List Int) × Int × Bool
abbrev K18q : Type := Int × (List K11q) × Int × Int × Int × Int × (List K10q) × (List (List Int)) × (List Int) × (List (List Int)) × (List Int) × (List (List Int)) × (List K9q) × (List Int) × Int × Bool × Int × (List K8q)
abbrev K19q : Type := Int × (List K11q) × Int × Int × Int × Int × (List K10q) × (List (List Int)) × (List Int) × (List (List Int)) × (List Int) × (List (List Int)) × (List K9q) × (List Int) × Int × Bool × Int × Bool
abbrev K20q : Type := Int × (List K11q) × Int × Int × Int × Int × (List K10q) × (List (List Int)) × (List Int) × (List (List Int)) × (List Int) × (List (List Int)) × (List K9q) × (List Int) × Int × Bool × Int
abbrev K21q : Type := Int × (List K11q) × Int × Int × Int
abbrev y22q : Go.Ab.Ty := .pair (.int .i64) y14q
abbrev y23q : Go.Ab.Ty := .pair (.int .i64) y22q
abbrev y24q : Go.Ab.Ty := .pair (.int .i64) y23q
abbrev y25q : Go.Ab.Ty := .pair (.int .i64) y24q
abbrev y26q : Go.Ab.Ty := .pair (.int .i64) y25q
abbrev cs0q : List Go.Ab.CS := [.dat false (.int .i64), .dat false (.int .i64), .dat false (.sl (.int .i64))]
abbrev cs1q : List Go.Ab.CS := [.dat false y14q, .dat false (.sl (.int .i64)), .dat false (.int .i64), .dat false (.sl (.int .i64))]
abbrev cs2q : List Go.Ab.CS := [.dat true (.int .u8), .bool]
abbrev cs3q : List Go.Ab.CS := [.dat true y14q, .dat true (.sl (.int .i64)), .dat true (.int .i64), .dat true (.sl (.int .i64))]
abbrev cs4q : List Go.Ab.CS := [.int .i64, .dat false y14q, .dat false (.sl (.int .i64)), .dat false (.int .i64), .dat false (.sl (.int .i64)), .dat false (.int .i64), .dat false (.sl (.int .i64)), .dat false y25q, .dat false (.int .i64), .int .i64, .bool]
abbrev cs5q : List Go.Ab.CS := [.int .i64, .dat false y1q, .int .i64, .int .i64, .int .i64]
abbrev cs6q : List Go.Ab.CS := [.int .i64, .dat true y14q, .dat true (.sl (.int .i64)), .dat true (.int .i64), .dat true (.sl (.int .i64)), .dat true (.int .i64), .dat true (.sl (.int .i64)), .dat true y25q, .dat true (.int .i64), .int .i64, .bool]
abbrev cs7q : List Go.Ab.CS := [.int .i64, .dat true y1q, .int .i64, .int .i64, .int .i64]
abbrev cs8q : List Go.Ab.CS := [.int .i64, .dat true y1q, .int .i64, .int .i64, .int .i64, .int .i64, .dat true y14q, .dat true (.sl (.int .i64)), .dat true (.int .i64), .dat true (.sl (.int .i64)), .dat true (.int .i64), .dat true (.sl (.int .i64)), .dat true y25q, .dat true (.int .i64), .int .i64, .bool, .int .i64, .lit (.osl 1001001 none)]
abbrev cs9q : List Go.Ab.CS := [.int .i64, .dat true y1q, .int .i64, .int .i64, .int .i64, .int .i64, .dat true y14q, .dat true (.sl (.int .i64)), .dat true (.int .i64), .dat true (.sl (.int .i64)), .dat true (.int .i64), .dat true (.sl (.int .i64)), .dat true y25q, .dat true (.int .i64), .int .i64, .bool, .int .i64, .lit .nsl]
abbrev cs10q : List Go.Ab.CS := [.int .i64, .int .i64, .int .i64, .int .i64, .int .i64, .int .i64, .int .i64]
abbrev cs11q : List Go.Ab.CS := [.int .i64, .int .i64, .int .i64, .int .i64, .int .i64, .int .i64, .int .i64, .int .i64, .int .i64, .int .i64, .int .i64, .int .i64, .int .i64, .int .i64, .dat true y14q, .dat true (.sl (.int .i64)), .dat true (.int .i64), .dat true (.sl (.int .i64))]
abbrev cs12q : List Go.Ab.CS := [.int .i64, .int .i64, .int .i64, .int .i64, .int .i64, .int .i64, .int .i64, .int .i64, .int .i64, .int .i64, .int .i64, .int .i64, .int .i64, .int .i64, .lit .nsl, .lit .nsl, .lit .nsl, .lit .nsl]
abbrev cs13q : List Go.Ab.CS := [.int .i64, .lit (.osl 1001001 none), .int .i64, .lit (.osl 1001002 none), .int .i64, .int .i64, .int .i64, .bool, .bool, .int .i64]
abbrev cs14q : List Go.Ab.CS := [.int .i64, .lit (.osl 1001002 none), .lit (.osl 1001003 none), .lit (.osl 1001004 none), .lit (.osl 1001005 none), .lit (.osl 1001006 none), .lit (.osl 1001007 none), .lit .nsl, .lit .nsl, .int .i64, .bool]
abbrev cs15q : List Go.Ab.CS := [.int .i64, .lit (.osl 1001003 none), .int .i64, .lit (.osl 1001004 none), .int .i64, .int .i64, .int .i64, .bool, .bool, .int .i64]
abbrev cs16q : List Go.Ab.CS := [.int .i64, .lit (.osl 1001003 none), .lit (.osl 1001004 none), .lit (.osl 1001005 none), .lit (.osl 1001006 none), .lit (.osl 1001007 none), .lit (.osl 1001008 none), .lit (.osl 1001009 none), .lit .nsl, .int .i64, .bool]
abbrev cs17q : List Go.Ab.CS := [.int .i64, .lit (.osl 1001003 none), .lit (.osl 1001004 none), .lit (.osl 1001005 none), .lit (.osl 1001006 none), .lit (.osl 1001007 none), .lit (.osl 1001008 none), .lit .nsl, .lit .nsl, .int .i64, .bool]
abbrev cs18q : List Go.Ab.CS := [.int .i64, .lit (.osl 1001003 none), .lit (.osl 1001004 none), .lit (.osl 1001005 none), .lit (.osl 1001006 none), .lit (.osl 1001007 none), .lit .nsl, .lit .nsl, .lit .nsl, .int .i64, .bool]
abbrev cs19q : List Go.Ab.CS := [.int .i64, .lit (.osl 1001004 none), .lit .nsl, .lit .nsl, .lit .nsl, .lit .nsl, .lit .nsl, .lit .nsl, .lit .nsl, .int .i64, .bool]
abbrev cs20q : List Go.Ab.CS := [.int .i64, .lit .nsl, .lit .nsl, .lit .nsl, .lit .nsl, .lit .nsl, .lit .nsl, .lit .nsl, .lit .nsl, .int .i64, .bool]
abbrev cs21q : List Go.Ab.CS := [.lit (.osl 1001002 none), .lit (.osl 1001003 none), .lit (.osl 1001004 none)]
abbrev cs22q : List Go.Ab.CS := [.lit (.osl 1001003 none), .lit (.osl 1001004 none), .lit (.osl 1001005 none), .lit (.osl 1001006 none)]
abbrev cs23q : List Go.Ab.CS := [.lit (.osl 1001004 none), .lit (.osl 1001005 none), .lit (.osl 1001006 none), .lit (.osl 1001007 none)]
abbrev cs24q : List Go.Ab.CS := [.lit .nsl, .lit .nsl, .int .i64, .lit .nsl, .lit .nsl, .lit .nsl, .lit .nsl, .lit .nsl, .lit .nsl, .lit .nsl, .lit .nsl, .int .i64, .bool, .bool]
abbrev cs25q : List Go.Ab.CS := [.lit .nsl, .lit .nsl, .lit .nsl, .lit .nsl]
abbrev pc26q : List Go.Ab.PC := [.dat false (.int .i64), .dat false (.int .i64), .dat false (.sl (.int .i64))]
abbrev pc27q : List Go.Ab.PC := [.dat false y14q, .dat false (.sl (.int .i64)), .dat false (.int .i64), .dat false (.sl (.int .i64))]
abbrev pc28q : List Go.Ab.PC := [.dat true y14q, .dat true (.sl (.int .i64)), .dat true (.int .i64), .dat true (.sl (.int .i64))]
abbrev pc29q : List Go.Ab.PC := [.int .i64, .dat false (.int .u8), .int .i64, .dat false (.int .u8), .int .i64, .int .i64, .int .i64, .bool, .bool, .int .i64]
abbrev pc30q : List Go.Ab.PC := [.int .i64, .dat false y14q, .dat false (.sl (.int .i64)), .dat false (.int .i64), .dat false (.sl (.int .i64)), .dat false (.int .i64), .dat false (.sl (.int .i64)), .dat false y25q, .dat false (.int .i64), .int .i64, .bool]
abbrev pc31q : List Go.Ab.PC := [.int .i64, .dat false y1q, .int .i64, .int .i64, .int .i64]
abbrev pc32q : List Go.Ab.PC := [.int .i64, .dat false y1q, .int .i64, .int .i64, .int .i64, .int .i64, .dat false y14q, .dat false (.sl (.int .i64)), .dat false (.int .i64), .dat false (.sl (.int .i64)), .dat false (.int .i64), .dat false (.sl (.int .i64)), .dat false y25q, .dat false (.int .i64), .int .i64, .bool, .int .i64, .dat false y26q]
abbrev pc33q : List Go.Ab.PC := [.int .i64, .dat true y14q, .dat true (.sl (.int .i64)), .dat true (.int .i64), .dat true (.sl (.int .i64)), .dat true (.int .i64), .dat true (.sl (.int .i64)), .dat true y25q, .dat true (.int .i64), .int .i64, .bool]
abbrev pc34q : List Go.Ab.PC := [.int .i64, .dat true y1q, .int .i64, .int .i64, .int .i64]
abbrev pc35q : List Go.Ab.PC := [.int .i64, .int .i64, .int .i64]
abbrev pc36q : List Go.Ab.PC := [.int .i64, .int .i64, .int .i64, .int .i64, .int .i64, .int .i64, .int .i64]
abbrev pc37q : List Go.Ab.PC := [.int .i64, .int .i64, .int .i64, .int .i64, .int .i64, .int .i64, .int .i64, .int .i64]
abbrev rc38q : List Go.Ab.RC := [.fro (.int .u8)]
abbrev rc39q : List Go.Ab.RC := [.fro (.sl (.int .u8))]
abbrev rc40q : List Go.Ab.RC := [.fro y14q, .fro (.sl (.int .i64)), .fro (.int .i64), .fro (.sl (.int .i64))]
abbrev rc41q : List Go.Ab.RC := [.int .i64]
abbrev rc42q : List Go.Ab.RC := [.int .i64, .fro y14q, .fro (.sl (.int .i64)), .fro (.int .i64), .fro (.sl (.int .i64)), .fro (.int .i64), .fro (.sl (.int .i64)), .fro y25q, .fro (.int .i64), .int .i64, .bool]
abbrev rc43q : List Go.Ab.RC := [.int .i64, .fro y14q, .fro (.sl (.int .i64)), .fro (.int .i64), .fro (.sl (.int .i64)), .fro (.int .i64), .fro (.sl (.int .i64)), .own y25q, .fro (.int .i64), .int .i64, .bool]
abbrev rc44q : List Go.Ab.RC := [.int .i64, .fro y1q, .int .i64, .int .i64, .int .i64, .int .i64, .fro y14q, .fro (.sl (.int .i64)), .fro (.int .i64), .fro (.sl (.int .i64)), .fro (.int .i64), .fro (.sl (.int .i64)), .fro y25q, .fro (.int .i64), .int .i64, .bool, .int .i64, .own y26q]
abbrev rc45q : List Go.Ab.RC := [.int .i64, .int .i64, .int .i64]
abbrev rc46q : List Go.Ab.RC := [.int .i64, .int .i64, .int .i64, .int .i64, .int .i64, .int .i64, .int .i64]
abbrev rc47q : List Go.Ab.RC := [.int .i64, .int .i64, .int .i64, .int .i64, .int .i64, .int .i64, .int .i64, .int .i64]
abbrev rc48q : List Go.Ab.RC := [.int .i64, .int .i64, .int .i64, .int .i64, .int .i64, .int .i64, .int .i64, .int .i64, .int .i64, .int .i64, .int .i64, .int .i64, .int .i64, .int .i64, .fro y14q, .fro (.sl (.int .i64)), .fro (.int .i64), .fro (.sl (.int .i64))]
abbrev rc49q : List Go.Ab.RC := [.int .i64, .own (.int .u8), .int .i64, .own (.int .u8), .int .i64, .int .i64, .int .i64, .bool, .bool, .int .i64]
abbrev rc50q : List Go.Ab.RC := [.int .i64, .own y14q, .mat, .own (.int .i64), .mat, .own (.int .i64), .mat, .own y25q, .own (.int .i64), .int .i64, .bool]
abbrev rc51q : List Go.Ab.RC := [.int .i64, .own y1q, .int .i64, .int .i64, .int .i64, .int .i64, .own y14q, .mat, .own (.int .i64), .mat, .own (.int .i64), .mat, .own y25q, .own (.int .i64), .int .i64, .bool, .int .i64, .own y26q]
abbrev rc52q : List Go.Ab.RC := [.link 0, .int .i64, .int .i64, .int .i64, .bool]
abbrev rc53q : List Go.Ab.RC := [.link 1, .int .i64, .fro y1q, .int .i64, .int .i64, .int .i64, .int .i64, .fro y14q, .fro (.sl (.int .i64)), .fro (.int .i64), .fro (.sl (.int .i64)), .fro (.int .i64), .fro (.sl (.int .i64)), .fro y25q, .fro (.int .i64), .int .i64, .bool, .int .i64, .bool]
abbrev rc54q : List Go.Ab.RC := [.link 1, .int .i64, .int .i64, .int .i64, .bool]
abbrev rc55q : List Go.Ab.RC := [.link 2, .int .i64, .fro y1q, .int .i64, .int .i64, .int .i64, .int .i64, .fro y14q, .fro (.sl (.int .i64)), .fro (.int .i64), .fro (.sl (.int .i64)), .fro (.int .i64), .fro (.sl (.int .i64)), .fro y25q, .fro (.int .i64), .int .i64, .bool, .int .i64, .bool]
abbrev rc56q : List Go.Ab.RC := [.link 2, .int .i64, .int .i64, .int .i64, .bool]
abbrev rc57q : List Go.Ab.RC := [.own (.int .i64)]
abbrev rc58q : List Go.Ab.RC := [.own (.sl y26q), .own y26q, .int .i64, .fro y14q, .fro (.sl (.int .i64)), .fro (.int .i64), .fro (.sl (.int .i64)), .fro (.int .i64), .fro (.sl (.int .i64)), .fro y25q, .fro (.int .i64), .int .i64, .bool, .bool]
abbrev xc59q : List Go.Ab.XC := [.link 1, .p (.int .i64), .p (.dat true y1q), .p (.int .i64), .p (.int .i64), .p (.int .i64), .p (.int .i64), .p (.dat true y14q), .p (.dat true (.sl (.int .i64))), .p (.dat true (.int .i64)), .p (.dat true (.sl (.int .i64))), .p (.dat true (.int .i64)), .p (.dat true (.sl (.int .i64))), .p (.dat true y25q), .p (.dat true (.int .i64)), .p (.int .i64), .p (.bool), .p (.int .i64), .p (.bool)]
abbrev xc60q : List Go.Ab.XC := [.link 1, .p (.int .i64), .p (.int .i64), .p (.int .i64), .p (.bool)]
abbrev xc61q : List Go.Ab.XC := [.link 2, .p (.int .i64), .p (.int .i64), .p (.int .i64), .p (.bool)]
abbrev xc62q : List Go.Ab.XC := [.p (.int .i64), .own (.int .u8), .p (.int .i64), .own (.int .u8), .p (.int .i64), .p (.int .i64), .p (.int .i64), .p (.bool), .p (.bool), .p (.int .i64)]
abbrev xc63q : List Go.Ab.XC := [.p (.int .i64), .p (.dat true y1q), .p (.int .i64), .p (.int .i64), .p (.int .i64), .p (.int .i64), .p (.dat true y14q), .p (.dat true (.sl (.int .i64))), .p (.dat true (.int .i64)), .p (.dat true (.sl (.int .i64))), .p (.dat true (.int .i64)), .p (.dat true (.sl (.int .i64))), .p (.dat true y25q), .p (.dat true (.int .i64)), .p (.int .i64), .p (.bool), .p (.int .i64), .own y26q]
abbrev xc64q : List Go.Ab.XC := [.p (.int .i64), .p (.dat true y1q), .p (.int .i64), .p (.int .i64), .p (.int .i64), .p (.int .i64), .p (.dat true y14q), .p (.dat true (.sl (.int .i64))), .p (.dat true (.int .i64)), .p (.dat true (.sl (.int .i64))), .p (.dat true (.int .i64)), .p (.dat true (.sl (.int .i64))), .p (.dat true y25q), .p (.dat true (.int .i64)), .p (.int .i64), .p (.bool), .p (.int .i64), .p (.nil)]
section
variable {A0 A1 A2 A3 A4 A5 A6 A7 A8 A9 A10 A11 A12 A13 A14 A15 A16 A17 A18 A19 A20 A21 A22 A23 A24 A25 A26 A27 A28 A29 A30 A31 A32 A33 A34 A35 A36 A37 A38 A39 A40 A41 A42 A43 A44 A45 T Y : Type}
abbrev f0_4 (x : A0 × A1 × A2 × A3) (t : T) := (x.1, x.2.1, x.2.2.1, x.2.2.2, t)
abbrev f0_5 (x : A0 × A1 × A2 × A3 × A4) (t : T) := (x.1, f0_4 x.2 t)
abbrev f0_6 (x : A0 × A1 × A2 × A3 × A4 × A5) (t : T) := (x.1, f0_5 x.2 t)
abbrev f0_7 (x : A0 × A1 × A2 × A3 × A4 × A5 × A6) (t : T) := (x.1, f0_6 x.2 t)
abbrev f0_8 (x : A0 × A1 × A2 × A3 × A4 × A5 × A6 × A7) (t : T) := (x.1, f0_7 x.2 t)
abbrev f0_9 (x : A0 × A1 × A2 × A3 × A4 × A5 × A6 × A7 × A8) (t : T) := (x.1, f0_8 x.2 t)
abbrev f0_10 (x : A0 × A1 × A2 × A3 × A4 × A5 × A6 × A7 × A8 × A9) (t : T) := (x.1, f0_9 x.2 t)
abbrev f0_11 (x : A0 × A1 × A2 × A3 × A4 × A5 × A6 × A7 × A8 × A9 × A10) (t : T) := (x.1, f0_10 x.2 t)
abbrev f0_12 (x : A0 × A1 × A2 × A3 × A4 × A5 × A6 × A7 × A8 × A9 × A10 × A11) (t : T) := (x.1, f0_11 x.2 t)
abbrev f0_13 (x : A0 × A1 × A2 × A3 × A4 × A5 × A6 × A7 × A8 × A9 × A10 × A11 × A12) (t : T) := (x.1, f0_12 x.2 t)
abbrev f0_14 (x : A0 × A1 × A2 × A3 × A4 × A5 × A6 × A7 × A8 × A9 × A10 × A11 × A12 × A13) (t : T) := (x.1, f0_13 x.2 t)
abbrev f0_15 (x : A0 × A1 × A2 × A3 × A4 × A5 × A6 × A7 × A8 × A9 × A10 × A11 × A12 × A13 × A14) (t : T) := (x.1, f0_14 x.2 t)
abbrev f0_16 (x : A0 × A1 × A2 × A3 × A4 × A5 × A6 × A7 × A8 × A9 × A10 × A11 × A12 × A13 × A14 × A15) (t : T) := (x.1, f0_15 x.2 t)
abbrev f0_17 (x : A0 × A1 × A2 × A3 × A4 × A5 × A6 × A7 × A8 × A9 × A10 × A11 × A12 × A13 × A14 × A15 × A16) (t : T) := (x.1, f0_16 x.2 t)
abbrev f0_18 (x : A0 × A1 × A2 × A3 × A4 × A5 × A6 × A7 × A8 × A9 × A10 × A11 × A12 × A13 × A14 × A15 × A16 × A17) (t : T) := (x.1, f0_17 x.2 t)
abbrev f0_19 (x : A0 × A1 × A2 × A3 × A4 × A5 × A6 × A7 × A8 × A9 × A10 × A11 × A12 × A13 × A14 × A15 × A16 × A17 × A18) (t : T) := (x.1, f0_18 x.2 t)
abbrev g0_4 (x : A0 × A1 × A2 × A3 × A4) := (x.1, x.2.1, x.2.2.1, x.2.2.2.1)
abbrev g0_5 (x : A0 × A1 × A2 × A3 × A4 × A5) := (x.1, g0_4 x.2)
abbrev g0_6 (x : A0 × A1 × A2 × A3 × A4 × A5 × A6) := (x.1, g0_5 x.2)
abbrev g0_7 (x : A0 × A1 × A2 × A3 × A4 × A5 × A6 × A7) := (x.1, g0_6 x.2)
abbrev g0_8 (x : A0 × A1 × A2 × A3 × A4 × A5 × A6 × A7 × A8) := (x.1, g0_7 x.2)
abbrev g0_9 (x : A0 × A1 × A2 × A3 × A4 × A5 × A6 × A7 × A8 × A9) := (x.1, g0_8 x.2)
abbrev g0_10 (x : A0 × A1 × A2 × A3 × A4 × A5 × A6 × A7 × A8 × A9 × A10) := (x.1, g0_9 x.2)
abbrev g0_11 (x : A0 × A1 × A2 × A3 × A4 × A5 × A6 × A7 × A8 × A9 × A10 × A11) := (x.1, g0_10 x.2)
abbrev g0_12 (x : A0 × A1 × A2 × A3 × A4 × A5 × A6 × A7 × A8 × A9 × A10 × A11 × A12) := (x.1, g0_11 x.2)
abbrev g0_13 (x : A0 × A1 × A2 × A3 × A4 × A5 × A6 × A7 × A8 × A9 × A10 × A11 × A12 × A13) := (x.1, g0_12 x.2)
abbrev g0_14 (x : A0 × A1 × A2 × A3 × A4 × A5 × A6 × A7 × A8 × A9 × A10 × A11 × A12 × A13 × A14) := (x.1, g0_13 x.2)
abbrev g0_15 (x : A0 × A1 × A2 × A3 × A4 × A5 × A6 × A7 × A8 × A9 × A10 × A11 × A12 × A13 × A14 × A15) := (x.1, g0_14 x.2)
abbrev g0_16 (x : A0 × A1 × A2 × A3 × A4 × A5 × A6 × A7 × A8 × A9 × A10 × A11 × A12 × A13 × A14 × A15 × A16) := (x.1, g0_15 x.2)
abbrev g0_17 (x : A0 × A1 × A2 × A3 × A4 × A5 × A6 × A7 × A8 × A9 × A10 × A11 × A12 × A13 × A14 × A15 × A16 × A17) := (x.1, g0_16 x.2)
abbrev g0_18 (x : A0 × A1 × A2 × A3 × A4 × A5 × A6 × A7 × A8 × A9 × A10 × A11 × A12 × A13 × A14 × A15 × A16 × A17 × A18) := (x.1, g0_17 x.2)
abbrev g0_19 (x : A0 × A1 × A2 × A3 × A4 × A5 × A6 × A7 × A8 × A9 × A10 × A11 × A12 × A13 × A14 × A15 × A16 × A17 × A18 × A19) := (x.1, g0_18 x.2)
abbrev j0_4 (x : A0 × A1 × A2 × A3 × A4) (t : T) := (x.1, x.2.1, x.2.2.1, x.2.2.2.1, t)
abbrev j0_5 (x : A0 × A1 × A2 × A3 × A4 × A5) (t : T) := (x.1, j0_4 x.2 t)
abbrev j0_6 (x : A0 × A1 × A2 × A3 × A4 × A5 × A6) (t : T) := (x.1, j0_5 x.2 t)
abbrev j0_7 (x : A0 × A1 × A2 × A3 × A4 × A5 × A6 × A7) (t : T) := (x.1, j0_6 x.2 t)
abbrev j0_8 (x : A0 × A1 × A2 × A3 × A4 × A5 × A6 × A7 × A8) (t : T) := (x.1, j0_7 x.2 t)
abbrev j0_9 (x : A0 × A1 × A2 × A3 × A4 × A5 × A6 × A7 × A8 × A9) (t : T) := (x.1, j0_8 x.2 t)
abbrev j0_10 (x : A0 × A1 × A2 × A3 × A4 × A5 × A6 × A7 × A8 × A9 × A10) (t : T) := (x.1, j0_9 x.2 t)
abbrev j0_11 (x : A0 × A1 × A2 × A3 × A4 × A5 × A6 × A7 × A8 × A9 × A10 × A11) (t : T) := (x.1, j0_10 x.2 t)
abbrev j0_12 (x : A0 × A1 × A2 × A3 × A4 × A5 × A6 × A7 × A8 × A9 × A10 × A11 × A12) (t : T) := (x.1, j0_11 x.2 t)
abbrev j0_13 (x : A0 × A1 × A2 × A3 × A4 × A5 × A6 × A7 × A8 × A9 × A10 × A11 × A12 × A13) (t : T) := (x.1, j0_12 x.2 t)
abbrev j0_14 (x : A0 × A1 × A2 × A3 × A4 × A5 × A6 × A7 × A8 × A9 × A10 × A11 × A12 × A13 × A14) (t : T) := (x.1, j0_13 x.2 t)
abbrev j0_15 (x : A0 × A1 × A2 × A3 × A4 × A5 × A6 × A7 × A8 × A9 × A10 × A11 × A12 × A13 × A14 × A15) (t : T) := (x.1, j0_14 x.2 t)
abbrev j0_16 (x : A0 × A1 × A2 × A3 × A4 × A5 × A6 × A7 × A8 × A9 × A10 × A11 × A12 × A13 × A14 × A15 × A16) (t : T) := (x.1, j0_15 x.2 t)
abbrev j0_17 (x : A0 × A1 × A2 × A3 × A4 × A5 × A6 × A7 × A8 × A9 × A10 × A11 × A12 × A13 × A14 × A15 × A16 × A17) (t : T) := (x.1, j0_16 x.2 t)
abbrev u0_4 (f : A0 → A1 → A2 → A3 → Y) (x : A0 × A1 × A2 × A3 × A4) : Y := f x.1 x.2.1 x.2.2.1 x.2.2.2.1
abbrev u0_5 (f : A0 → A1 → A2 → A3 → A4 → Y) (x : A0 × A1 × A2 × A3 × A4 × A5) : Y := u0_4 (f x.1) x.2
abbrev u0_6 (f : A0 → A1 → A2 → A3 → A4 → A5 → Y) (x : A0 × A1 × A2 × A3 × A4 × A5 × A6) : Y := u0_5 (f x.1) x.2
abbrev u0_7 (f : A0 → A1 → A2 → A3 → A4 → A5 → A6 → Y) (x : A0 × A1 × A2 × A3 × A4 × A5 × A6 × A7) : Y := u0_6 (f x.1) x.2
abbrev u0_8 (f : A0 → A1 → A2 → A3 → A4 → A5 → A6 → A7 → Y) (x : A0 × A1 × A2 × A3 × A4 × A5 × A6 × A7 × A8) : Y := u0_7 (f x.1) x.2
abbrev u0_9 (f : A0 → A1 → A2 → A3 → A4 → A5 → A6 → A7 → A8 → Y) (x : A0 × A1 × A2 × A3 × A4 × A5 × A6 × A7 × A8 × A9) : Y := u0_8 (f x.1) x.2
abbrev u0_10 (f : A0 → A1 → A2 → A3 → A4 → A5 → A6 → A7 → A8 → A9 → Y) (x : A0 × A1 × A2 × A3 × A4 × A5 × A6 × A7 × A8 × A9 × A10) : Y := u0_9 (f x.1) x.2
abbrev u0_11 (f : A0 → A1 → A2 → A3 → A4 → A5 → A6 → A7 → A8 → A9 → A10 → Y) (x : A0 × A1 × A2 × A3 × A4 × A5 × A6 × A7 × A8 × A9 × A10 × A11) : Y := u0_10 (f x.1) x.2
abbrev u0_12 (f : A0 → A1 → A2 → A3 → A4 → A5 → A6 → A7 → A8 → A9 → A10 → A11 → Y) (x : A0 × A1 × A2 × A3 × A4 × A5 × A6 × A7 × A8 × A9 × A10 × A11 × A12) : Y := u0_11 (f x.1) x.2
abbrev u0_13 (f : A0 → A1 → A2 → A3 → A4 → A5 → A6 → A7 → A8 → A9 → A10 → A11 → A12 → Y) (x : A0 × A1 × A2 × A3 × A4 × A5 × A6 × A7 × A8 × A9 × A10 × A11 × A12 × A13) : Y := u0_12 (f x.1) x.2
abbrev u0_14 (f : A0 → A1 → A2 → A3 → A4 → A5 → A6 → A7 → A8 → A9 → A10 → A11 → A12 → A13 → Y) (x : A0 × A1 × A2 × A3 × A4 × A5 × A6 × A7 × A8 × A9 × A10 × A11 × A12 × A13 × A14) : Y := u0_13 (f x.1) x.2
abbrev u0_15 (f : A0 → A1 → A2 → A3 → A4 → A5 → A6 → A7 → A8 → A9 → A10 → A11 → A12 → A13 → A14 → Y) (x : A0 × A1 × A2 × A3 × A4 × A5 × A6 × A7 × A8 × A9 × A10 × A11 × A12 × A13 × A14 × A15) : Y := u0_14 (f x.1) x.2
abbrev u0_16 (f : A0 → A1 → A2 → A3 → A4 → A5 → A6 → A7 → A8 → A9 → A10 → A11 → A12 → A13 → A14 → A15 → Y) (x : A0 × A1 × A2 × A3 × A4 × A5 × A6 × A7 × A8 × A9 × A10 × A11 × A12 × A13 × A14 × A15 × A16) : Y := u0_15 (f x.1) x.2
abbrev u0_17 (f : A0 → A1 → A2 → A3 → A4 → A5 → A6 → A7 → A8 → A9 → A10 → A11 → A12 → A13 → A14 → A15 → A16 → Y) (x : A0 × A1 × A2 × A3 × A4 × A5 × A6 × A7 × A8 × A9 × A10 × A11 × A12 × A13 × A14 × A15 × A16 × A17) : Y := u0_16 (f x.1) x.2
abbrev u0_18 (f : A0 → A1 → A2 → A3 → A4 → A5 → A6 → A7 → A8 → A9 → A10 → A11 → A12 → A13 → A14 → A15 → A16 → A17 → Y) (x : A0 × A1 × A2 × A3 × A4 × A5 × A6 × A7 × A8 × A9 × A10 × A11 × A12 × A13 × A14 × A15 × A16 × A17 × A18) : Y := u0_17 (f x.1) x.2
abbrev u0_19 (f : A0 → A1 → A2 → A3 → A4 → A5 → A6 → A7 → A8 → A9 → A10 → A11 → A12 → A13 → A14 → A15 → A16 → A17 → A18 → Y) (x : A0 × A1 × A2 × A3 × A4 × A5 × A6 × A7 × A8 × A9 × A10 × A11 × A12 × A13 × A14 × A15 × A16 × A17 × A18 × A19) : Y := u0_18 (f x.1) x.2
abbrev f13_4 (x : A0 × A1 × A2 × A3 × A4 × A5 × A6 × A7 × A8 × A9 × A10 × A11 × A12 × A13 × A14 × A15 × A16) (t : T) := f0_4 x.2.2.2.2.2.2.2.2.2.2.2.2.2 t
abbrev f2_4 (x : A0 × A1 × A2 × A3 × A4 × A5) (t : T) := f0_4 x.2.2 t
abbrev f3_4 (x : A0 × A1 × A2 × A3 × A4 × A5 × A6) (t : T) := f0_4 x.2.2.2 t
abbrev f4_4 (x : A0 × A1 × A2 × A3 × A4 × A5 × A6 × A7) (t : T) := f0_4 x.2.2.2.2 t
abbrev f8_4 (x : A0 × A1 × A2 × A3 × A4 × A5 × A6 × A7 × A8 × A9 × A10 × A11) (t : T) := f0_4 x.2.2.2.2.2.2.2.2 t
abbrev f12_5 (x : A0 × A1 × A2 × A3 × A4 × A5 × A6 × A7 × A8 × A9 × A10 × A11 × A12 × A13 × A14 × A15 × A16) (t : T) := f0_5 x.2.2.2.2.2.2.2.2.2.2.2.2 t
abbrev f11_6 (x : A0 × A1 × A2 × A3 × A4 × A5 × A6 × A7 × A8 × A9 × A10 × A11 × A12 × A13 × A14 × A15 × A16) (t : T) := f0_6 x.2.2.2.2.2.2.2.2.2.2.2 t
abbrev f2_6 (x : A0 × A1 × A2 × A3 × A4 × A5 × A6 × A7) (t : T) := f0_6 x.2.2 t
abbrev f10_7 (x : A0 × A1 × A2 × A3 × A4 × A5 × A6 × A7 × A8 × A9 × A10 × A11 × A12 × A13 × A14 × A15 × A16) (t : T) := f0_7 x.2.2.2.2.2.2.2.2.2.2 t
abbrev f4_7 (x : A0 × A1 × A2 × A3 × A4 × A5 × A6 × A7 × A8 × A9 × A10) (t : T) := f0_7 x.2.2.2.2 t
abbrev f7_7 (x : A0 × A1 × A2 × A3 × A4 × A5 × A6 × A7 × A8 × A9 × A10 × A11 × A12 × A13) (t : T) := f0_7 x.2.2.2.2.2.2.2 t
abbrev f1_11 (x : A0 × A1 × A2 × A3 × A4 × A5 × A6 × A7 × A8 × A9 × A10 × A11) (t : T) := f0_11 x.2 t
abbrev f7_11 (x : A0 × A1 × A2 × A3 × A4 × A5 × A6 × A7 × A8 × A9 × A10 × A11 × A12 × A13 × A14 × A15 × A16 × A17) (t : T) := f0_11 x.2.2.2.2.2.2.2 t
abbrev f1_18 (x : A0 × A1 × A2 × A3 × A4 × A5 × A6 × A7 × A8 × A9 × A10 × A11 × A12 × A13 × A14 × A15 × A16 × A17 × A18) (t : T) := f0_18 x.2 t
abbrev g15_4 (x : A0 × A1 × A2 × A3 × A4 × A5 × A6 × A7 × A8 × A9 × A10 × A11 × A12 × A13 × A14 × A15 × A16 × A17 × A18 × A19) := g0_4 x.2.2.2.2.2.2.2.2.2.2.2.2.2.2.2
abbrev g1_4 (x : A0 × A1 × A2 × A3 × A4 × A5) := g0_4 x.2
abbrev g20_4 (x : A0 × A1 × A2 × A3 × A4 × A5 × A6 × A7 × A8 × A9 × A10 × A11 × A12 × A13 × A14 × A15 × A16 × A17 × A18 × A19 × A20 × A21 × A22 × A23 × A24) := g0_4 x.2.2.2.2.2.2.2.2.2.2.2.2.2.2.2.2.2.2.2.2
abbrev g21_4 (x : A0 × A1 × A2 × A3 × A4 × A5 × A6 × A7 × A8 × A9 × A10 × A11 × A12 × A13 × A14 × A15 × A16 × A17 × A18 × A19 × A20 × A21 × A22 × A23 × A24 × A25) := g0_4 x.2.2.2.2.2.2.2.2.2.2.2.2.2.2.2.2.2.2.2.2.2
abbrev g2_4 (x : A0 × A1 × A2 × A3 × A4 × A5 × A6) := g0_4 x.2.2
abbrev g31_4 (x : A0 × A1 × A2 × A3 × A4 × A5 × A6 × A7 × A8 × A9 × A10 × A11 × A12 × A13 × A14 × A15 × A16 × A17 × A18 × A19 × A20 × A21 × A22 × A23 × A24 × A25 × A26 × A27 × A28 × A29 × A30 × A31 × A32 × A33 × A34 × A35) := g0_4 x.2.2.2.2.2.2.2.2.2.2.2.2.2.2.2.2.2.2.2.2.2.2.2.2.2.2.2.2.2.2.2
abbrev g32_4 (x : A0 × A1 × A2 × A3 × A4 × A5 × A6 × A7 × A8 × A9 × A10 × A11 × A12 × A13 × A14 × A15 × A16 × A17 × A18 × A19 × A20 × A21 × A22 × A23 × A24 × A25 × A26 × A27 × A28 × A29 × A30 × A31 × A32 × A33 × A34 × A35 × A36) := g0_4 x.2.2.2.2.2.2.2.2.2.2.2.2.2.2.2.2.2.2.2.2.2.2.2.2.2.2.2.2.2.2.2.2
abbrev g18_6 (x : A0 × A1 × A2 × A3 × A4 × A5 × A6 × A7 × A8 × A9 × A10 × A11 × A12 × A13 × A14 × A15 × A16 × A17 × A18 × A19 × A20 × A21 × A22 × A23 × A24) := g0_6 x.2.2.2.2.2.2.2.2.2.2.2.2.2.2.2.2.2.2
abbrev g18_7 (x : A0 × A1 × A2 × A3 × A4 × A5 × A6 × A7 × A8 × A9 × A10 × A11 × A12 × A13 × A14 × A15 × A16 × A17 × A18 × A19 × A20 × A21 × A22 × A23 × A24 × A25) := g0_7 x.2.2.2.2.2.2.2.2.2.2.2.2.2.2.2.2.2.2
abbrev g1_7 (x : A0 × A1 × A2 × A3 × A4 × A5 × A6 × A7 × A8) := g0_7 x.2
abbrev g6_7 (x : A0 × A1 × A2 × A3 × A4 × A5 × A6 × A7 × A8 × A9 × A10 × A11 × A12 × A13) := g0_7 x.2.2.2.2.2.2
abbrev g7_7 (x : A0 × A1 × A2 × A3 × A4 × A5 × A6 × A7 × A8 × A9 × A10 × A11 × A12 × A13 × A14) := g0_7 x.2.2.2.2.2.2.2
abbrev g16_8 (x : A0 × A1 × A2 × A3 × A4 × A5 × A6 × A7 × A8 × A9 × A10 × A11 × A12 × A13 × A14 × A15 × A16 × A17 × A18 × A19 × A20 × A21 × A22 × A23 × A24) := g0_8 x.2.2.2.2.2.2.2.2.2.2.2.2.2.2.2.2
abbrev g1_10 (x : A0 × A1 × A2 × A3 × A4 × A5 × A6 × A7 × A8 × A9 × A10 × A11) := g0_10 x.2
abbrev g24_10 (x : A0 × A1 × A2 × A3 × A4 × A5 × A6 × A7 × A8 × A9 × A10 × A11 × A12 × A13 × A14 × A15 × A16 × A17 × A18 × A19 × A20 × A21 × A22 × A23 × A24 × A25 × A26 × A27 × A28 × A29 × A30 × A31 × A32 × A33 × A34) := g0_10 x.2.2.2.2.2.2.2.2.2.2.2.2.2.2.2.2.2.2.2.2.2.2.2.2
abbrev g25_10 (x : A0 × A1 × A2 × A3 × A4 × A5 × A6 × A7 × A8 × A9 × A10 × A11 × A12 × A13 × A14 × A15 × A16 × A17 × A18 × A19 × A20 × A21 × A22 × A23 × A24 × A25 × A26 × A27 × A28 × A29 × A30 × A31 × A32 × A33 × A34 × A35) := g0_10 x.2.2.2.2.2.2.2.2.2.2.2.2.2.2.2.2.2.2.2.2.2.2.2.2.2
abbrev g2_10 (x : A0 × A1 × A2 × A3 × A4 × A5 × A6 × A7 × A8 × A9 × A10 × A11 × A12) := g0_10 x.2.2
abbrev g35_10 (x : A0 × A1 × A2 × A3 × A4 × A5 × A6 × A7 × A8 × A9 × A10 × A11 × A12 × A13 × A14 × A15 × A16 × A17 × A18 × A19 × A20 × A21 × A22 × A23 × A24 × A25 × A26 × A27 × A28 × A29 × A30 × A31 × A32 × A33 × A34 × A35 × A36 × A37 × A38 × A39 × A40 × A41 × A42 × A43 × A44 × A45) := g0_10 x.2.2.2.2.2.2.2.2.2.2.2.2.2.2.2.2.2.2.2.2.2.2.2.2.2.2.2.2.2.2.2.2.2.2.2
abbrev g4_10 (x : A0 × A1 × A2 × A3 × A4 × A5 × A6 × A7 × A8 × A9 × A10 × A11 × A12 × A13 × A14) := g0_10 x.2.2.2.2
abbrev g5_10 (x : A0 × A1 × A2 × A3 × A4 × A5 × A6 × A7 × A8 × A9 × A10 × A11 × A12 × A13 × A14 × A15) := g0_10 x.2.2.2.2.2
abbrev g6_10 (x : A0 × A1 × A2 × A3 × A4 × A5 × A6 × A7 × A8 × A9 × A10 × A11 × A12 × A13 × A14 × A15 × A16) := g0_10 x.2.2.2.2.2.2
abbrev g11_11 (x : A0 × A1 × A2 × A3 × A4 × A5 × A6 × A7 × A8 × A9 × A10 × A11 × A12 × A13 × A14 × A15 × A16 × A17 × A18 × A19 × A20 × A21 × A22) := g0_11 x.2.2.2.2.2.2.2.2.2.2.2
abbrev g2_11 (x : A0 × A1 × A2 × A3 × A4 × A5 × A6 × A7 × A8 × A9 × A10 × A11 × A12 × A13) := g0_11 x.2.2
abbrev g5_11 (x : A0 × A1 × A2 × A3 × A4 × A5 × A6 × A7 × A8 × A9 × A10 × A11 × A12 × A13 × A14 × A15 × A16) := g0_11 x.2.2.2.2.2
abbrev g7_11 (x : A0 × A1 × A2 × A3 × A4 × A5 × A6 × A7 × A8 × A9 × A10 × A11 × A12 × A13 × A14 × A15 × A16 × A17 × A18) := g0_11 x.2.2.2.2.2.2.2
abbrev g12_18 (x : A0 × A1 × A2 × A3 × A4 × A5 × A6 × A7 × A8 × A9 × A10 × A11 × A12 × A13 × A14 × A15 × A16 × A17 × A18 × A19 × A20 × A21 × A22 × A23 × A24 × A25 × A26 × A27 × A28 × A29 × A30) := g0_18 x.2.2.2.2.2.2.2.2.2.2.2.2
abbrev g13_18 (x : A0 × A1 × A2 × A3 × A4 × A5 × A6 × A7 × A8 × A9 × A10 × A11 × A12 × A13 × A14 × A15 × A16 × A17 × A18 × A19 × A20 × A21 × A22 × A23 × A24 × A25 × A26 × A27 × A28 × A29 × A30 × A31) := g0_18 x.2.2.2.2.2.2.2.2.2.2.2.2.2
abbrev g1_18 (x : A0 × A1 × A2 × A3 × A4 × A5 × A6 × A7 × A8 × A9 × A10 × A11 × A12 × A13 × A14 × A15 × A16 × A17 × A18 × A19) := g0_18 x.2
abbrev g2_18 (x : A0 × A1 × A2 × A3 × A4 × A5 × A6 × A7 × A8 × A9 × A10 × A11 × A12 × A13 × A14 × A15 × A16 × A17 × A18 × A19 × A20) := g0_18 x.2.2
abbrev j10_4 (x : A0 × A1 × A2 × A3 × A4 × A5 × A6 × A7 × A8 × A9 × A10 × A11 × A12 × A13 × A14) (t : T) := j0_4 x.2.2.2.2.2.2.2.2.2.2 t
abbrev j1_4 (x : A0 × A1 × A2 × A3 × A4 × A5) (t : T) := j0_4 x.2 t
abbrev j2_4 (x : A0 × A1 × A2 × A3 × A4 × A5 × A6) (t : T) := j0_4 x.2.2 t
abbrev j5_4 (x : A0 × A1 × A2 × A3 × A4 × A5 × A6 × A7 × A8 × A9) (t : T) := j0_4 x.2.2.2.2.2 t
abbrev j4_6 (x : A0 × A1 × A2 × A3 × A4 × A5 × A6 × A7 × A8 × A9 × A10) (t : T) := j0_6 x.2.2.2.2 t
abbrev j1_7 (x : A0 × A1 × A2 × A3 × A4 × A5 × A6 × A7 × A8) (t : T) := j0_7 x.2 t
abbrev j4_8 (x : A0 × A1 × A2 × A3 × A4 × A5 × A6 × A7 × A8 × A9 × A10 × A11 × A12) (t : T) := j0_8 x.2.2.2.2 t
abbrev j5_11 (x : A0 × A1 × A2 × A3 × A4 × A5 × A6 × A7 × A8 × A9 × A10 × A11 × A12 × A13 × A14 × A15 × A16) (t : T) := j0_11 x.2.2.2.2.2 t
abbrev j6_14 (x : A0 × A1 × A2 × A3 × A4 × A5 × A6 × A7 × A8 × A9 × A10 × A11 × A12 × A13 × A14 × A15 × A16 × A17 × A18 × A19 × A20) (t : T) := j0_14 x.2.2.2.2.2.2 t
abbrev j1_17 (x : A0 × A1 × A2 × A3 × A4 × A5 × A6 × A7 × A8 × A9 × A10 × A11 × A12 × A13 × A14 × A15 × A16 × A17 × A18) (t : T) := j0_17 x.2 t
end
def tape_New (k : Nat) (a0 : Int) : Option (K2q ⊕ Unit) :=
 bif decide (a0 < 0) then some (.inr ())
 else bif decide (a0 > 200000) then some (.inr ())
 else some (.inl (a0, [], 0, [], 0, 0, 0, false, false, 0))
def day_in (k : Nat) (a0 a1 a2 : Int) : Option Bool :=
 bif decide (a0 ≥ a1) then some (decide (a0 ≤ a2))
 else some false
def day_Is_fn1 (k : Nat) (a0 : K11q) : Option Bool :=
 (day_in k a0.1 0 1048576).bind fun x0 =>
 bif !x0 then some true
 else (day_in k a0.2 0 10000).bind fun x1 =>
 some (!x1)
abbrev slices_IndexFunc_Asset__day_Is_fn1_L0T : Type := List K11q → Int → Int → Option (Unit ⊕ Int)
def slices_IndexFunc_Asset__day_Is_fn1_L0b (k : Nat) (rec : slices_IndexFunc_Asset__day_Is_fn1_L0T) (s0 : List K11q) (s7 s8 : Int) : Option (Unit ⊕ Int) :=
 bif decide (s8 < s7) then (bif boundOk s8 s0.length then ((day_Is_fn1 k (s0.getD s8.toNat (0, 0))).bind fun x0 =>
   bif x0 then some (.inr s8)
   else rec s0 s7 (w64 (s8 + 1)))
  else none)
 else some (.inl ())
def slices_IndexFunc_Asset__day_Is_fn1_L0 (k : Nat) : Nat → slices_IndexFunc_Asset__day_Is_fn1_L0T := rounds (fun _ _ _ => none) (slices_IndexFunc_Asset__day_Is_fn1_L0b k)
def slices_IndexFunc_Asset__day_Is_fn1 (k : Nat) (a0 : List K11q) : Option Int :=
 (slices_IndexFunc_Asset__day_Is_fn1_L0 k k a0 (a0.length : Int) 0).bind fun z =>
 match z with
 | .inl z1 => some (-1)
 | .inr z2 => some z2
def slices_ContainsFunc_Asset__day_Is_fn1 (k : Nat) (a0 : List K11q) : Option Bool :=
 (slices_IndexFunc_Asset__day_Is_fn1 k a0).bind fun x0 =>
 some (decide (x0 ≥ 0))
def day_Is (k : Nat) (a0 : K21q) : Option Bool :=
 (day_in k a0.1 1 6).bind fun x0 =>
 bif x0 then ((day_in k a0.2.2.2.1 1 1048576).bind fun x1 =>
  bif x1 then ((day_in k a0.2.2.1 0 a0.2.2.2.1).bind fun x2 =>
   bif x2 then ((day_in k a0.2.2.2.2 1 1048576).bind fun x3 =>
    bif decide ((a0.2.1.length : Int) ≤ 3) then (bif x3 then ((slices_ContainsFunc_Asset__day_Is_fn1 k a0.2.1).bind fun x4 =>
      some (!x4))
     else some false)
    else some false)
   else bif decide ((a0.2.1.length : Int) ≤ 3) then some false
   else some false)
  else bif decide ((a0.2.1.length : Int) ≤ 3) then some false
  else some false)
 else (day_in k a0.2.2.2.1 1 1048576).bind fun x5 =>
 bif x5 then ((day_in k a0.2.2.1 0 a0.2.2.2.1).bind fun x6 =>
  bif x6 then ((day_in k a0.2.2.2.2 1 1048576).bind fun x7 =>
   some false)
  else some false)
 else some false
def tape_isSide (k : Nat) (a0 : Int) : Option Bool :=
 bif decide (a0 ≥ 0) then some (decide (a0 < 2))
 else some false
def bytes_Clone (k : Nat) (a0 : List Int) : Option (List Int) :=
 bif roomB (0 + a0.length) 1 then some a0
 else none
def tape_Deck_Read (k : Nat) (a0 : K2q) (a1 : Int) : Option (List Int) :=
 (tape_isSide k a1).bind fun x0 =>
 bif !x0 then some []
 else bif decide (a1 = 0) then ((bytes_Clone k a0.2.1).bind fun x1 =>
  some x1)
 else bif decide (a1 = 1) then ((bytes_Clone k a0.2.2.2.1).bind fun x2 =>
  some x2)
 else none
abbrev rec_Scan_L0X : Type := (List Int) × (List (List Int))
abbrev rec_Scan_L0T : Type := List Int → List (List Int) → Option rec_Scan_L0X
def rec_Scan_L0b (k : Nat) (rec : rec_Scan_L0T) (s0 : List Int) (r0 : List (List Int)) : Option rec_Scan_L0X :=
 bif decide ((s0.length : Int) ≥ 2) then (bif boundOk 0 s0.length then (bif boundOk 1 s0.length then (bif decide ((bor .i64 (shl .i64 (w64 ((s0.getD 0 0))) 8) (w64 ((s0.getD 1 0)))) > 60000) then some (s0, r0)
    else bif decide ((bor .i64 (shl .i64 (w64 ((s0.getD 0 0))) 8) (w64 ((s0.getD 1 0)))) > (w64 ((s0.length : Int) - 2))) then some (s0, r0)
    else bif (decide (2 ≤ (w64 (2 + (bor .i64 (shl .i64 (w64 ((s0.getD 0 0))) 8) (w64 ((s0.getD 1 0)))))))) && (decide ((w64 (2 + (bor .i64 (shl .i64 (w64 ((s0.getD 0 0))) 8) (w64 ((s0.getD 1 0)))))) ≤ (s0.length : Int))) then (bif roomB (0 + (slc s0 2 ((w64 (2 + (bor .i64 (shl .i64 (w64 ((s0.getD 0 0))) 8) (w64 ((s0.getD 1 0)))))).toNat - 2)).length) 1 then (let y0 : List Int := (slc s0 2 ((w64 (2 + (bor .i64 (shl .i64 (w64 ((s0.getD 0 0))) 8) (w64 ((s0.getD 1 0)))))).toNat - 2))
      bif roomB (r0.length + 1) 24 then (bif (decide (0 ≤ (w64 (2 + (bor .i64 (shl .i64 (w64 ((s0.getD 0 0))) 8) (w64 ((s0.getD 1 0)))))))) && (decide ((w64 (2 + (bor .i64 (shl .i64 (w64 ((s0.getD 0 0))) 8) (w64 ((s0.getD 1 0)))))) ≤ (s0.length : Int))) then (rec (List.drop (w64 (2 + (bor .i64 (shl .i64 (w64 ((s0.getD 0 0))) 8) (w64 ((s0.getD 1 0)))))).toNat s0) (r0 ++ [y0]))
       else none)
      else none)
     else none)
    else none)
   else none)
  else none)
 else some (s0, r0)
def rec_Scan_L0 (k : Nat) : Nat → rec_Scan_L0T := rounds (fun _ _ => none) (rec_Scan_L0b k)
def rec_Scan (k : Nat) (a0 : List Int) : Option ((List (List Int)) × Int) :=
 (rec_Scan_L0 k k a0 []).bind fun z =>
 some (z.2, (z.1.length : Int))
abbrev word_Get_L1X : Type := (List Int) × Int × (List Int)
abbrev word_Get_L1T : Type := List Int → Int → List Int → Int → Int → List Int → Option word_Get_L1X
def word_Get_L1b (k : Nat) (rec : word_Get_L1T) (s0 : List Int) (s5 : Int) (s16 : List Int) (s17 s18 : Int) (r0 : List Int) : Option word_Get_L1X :=
 bif decide (s18 < s17) then (bif boundOk s18 s16.length then (rec s0 (bor .u64 (shl .u64 s5 8) (IntKind.wrap .u64 ((s16.getD s18.toNat 0)))) s16 s17 (w64 (s18 + 1)) r0)
  else none)
 else some (s0, s5, r0)
def word_Get_L1 (k : Nat) : Nat → word_Get_L1T := rounds (fun _ _ _ _ _ _ => none) (word_Get_L1b k)
def word_Get_L0b (k : Nat) (rec : List Int → List Int → Option (List Int)) (s0 r0 : List Int) : Option (List Int) :=
 bif decide ((s0.length : Int) > 0) then (bif decide (8 ≤ (s0.length : Int)) then ((word_Get_L1 k k s0 0 (List.take 8 s0) ((List.take 8 s0).length : Int) 0 r0).bind fun z =>
   bif roomB (z.2.2.length + 1) 8 then (bif decide (8 ≤ (z.1.length : Int)) then (rec (List.drop 8 z.1) (z.2.2 ++ [(w64 (z.2.1))]))
    else none)
   else none)
  else none)
 else some r0
def word_Get_L0 (k : Nat) : Nat → List Int → List Int → Option (List Int) := rounds (fun _ _ => none) (word_Get_L0b k)
def word_Get (k : Nat) (a0 : List Int) : Option ((List Int) × Int) :=
 bif !(decide ((Int.tmod (a0.length : Int) 8) = 0)) then some ([], 2)
 else (word_Get_L0 k k a0 []).bind fun z1 =>
 some (z1, 0)
def log_held (k : Nat) (a0 : K2q) (a1 : Int) : Option (Int × (List Int) × (List (List Int))) :=
 (tape_Deck_Read k a0 a1).bind fun x0 =>
 (rec_Scan k x0).bind fun x1 =>
 bif decide ((x1.1.length : Int) = 0) then some (0, [], [])
 else bif boundOk 0 x1.1.length then (bif decide (((x1.1.getD 0 []).length : Int) < 8) then some (0, [], [])
  else bif boundOk 0 x1.1.length then (bif decide (8 ≤ ((x1.1.getD 0 []).length : Int)) then ((word_Get k (List.take 8 (x1.1.getD 0 []))).bind fun x2 =>
    bif boundOk 0 x2.1.length then (bif decide ((x2.1.getD 0 0) < 1) then some (0, [], [])
     else bif boundOk 0 x2.1.length then (bif decide ((x2.1.getD 0 0) > 4611686018427387904) then some (0, [], [])
      else bif boundOk 0 x2.1.length then (bif boundOk 0 x1.1.length then (bif decide (8 ≤ ((x1.1.getD 0 []).length : Int)) then (bif decide (1 ≤ (x1.1.length : Int)) then some ((x2.1.getD 0 0), (List.drop 8 (x1.1.getD 0 [])), (slc x1.1 1 (x1.1.length - 1)))
         else none)
        else none)
       else none)
      else none)
     else none)
    else none)
   else none)
  else none)
 else none
def log_Look (k : Nat) (a0 : K2q) : Option (Int × Int × (List Int) × (List (List Int)) × Bool) :=
 (log_held k a0 0).bind fun x0 =>
 bif decide (x0.1 > 0) then ((log_held k a0 1).bind fun x1 =>
  bif decide (x1.1 > x0.1) then some (x1.1, 1, x1.2.1, x1.2.2, true)
  else some (x0.1, 0, x0.2.1, x0.2.2, true))
 else (log_held k a0 1).bind fun x2 =>
 bif decide (x2.1 > 0) then some (x2.1, 1, x2.2.1, x2.2.2, true)
 else some (0, 0, [], [], false)
def lim_isSize (k : Nat) (a0 : Int) : Option Bool :=
 bif decide (a0 ≥ 0) then some (decide (a0 ≤ 6))
 else some false
abbrev lim_Row_L0T : Type := Int → Int → Int → List Int → Option (List Int)
def lim_Row_L0b (k : Nat) (rec : lim_Row_L0T) (s1 s13 s14 : Int) (r0 : List Int) : Option (List Int) :=
 bif decide (s14 < s13) then (bif boundOk s14 r0.length then (rec s1 s13 (w64 (s14 + 1)) (r0.set s14.toNat s1))
  else none)
 else some r0
def lim_Row_L0 (k : Nat) : Nat → lim_Row_L0T
 | 0, _, _, _, _ => none
 | n + 1, s1, s13, s14, r0 => lim_Row_L0b k (lim_Row_L0 k n) s1 s13 s14 r0
def lim_Row (k : Nat) (a0 a1 : Int) : Option (List Int) :=
 (lim_isSize k a0).bind fun x0 =>
 bif !x0 then some []
 else bif makeOk a0 a0 8 then ((lim_Row_L0 k k a1 ((List.replicate a0.toNat (0 : Int)).length : Int) 0 (List.replicate a0.toNat (0 : Int))).bind fun z =>
  some z)
 else none
abbrev lim_Square_L0T : Type := Int → Int → Int → Int → List (List Int) → Option (List (List Int))
def lim_Square_L0b (k : Nat) (rec : lim_Square_L0T) (s0 s1 s13 s14 : Int) (m0 : List (List Int)) : Option (List (List Int)) :=
 bif decide (s14 < s13) then ((lim_Row k s0 s1).bind fun x1 =>
  bif boundOk s14 m0.length then (rec s0 s1 s13 (w64 (s14 + 1)) (m0.set s14.toNat x1))
  else none)
 else some m0
def lim_Square_L0 (k : Nat) : Nat → lim_Square_L0T
 | 0, _, _, _, _, _ => none
 | n + 1, s0, s1, s13, s14, m0 => lim_Square_L0b k (lim_Square_L0 k n) s0 s1 s13 s14 m0
def lim_Square (k : Nat) (a0 a1 : Int) : Option (List (List Int)) :=
 (lim_isSize k a0).bind fun x0 =>
 bif !x0 then some []
 else bif makeOk a0 a0 24 then ((lim_Square_L0 k k a0 a1 ((List.replicate a0.toNat ([] : List Int)).length : Int) 0 (List.replicate a0.toNat ([] : List Int))).bind fun z =>
  some z)
 else none
abbrev core_New_L0X : Type := Int × K21q × K5q × K5q × (List K10q) × (List (List Int)) × (List Int) × (List (List Int)) × (List Int)
abbrev core_New_L0T : Type := Int → List K11q → Int → Int → K21q → K5q → K5q → List K10q → List (List Int) → List Int → List (List Int) → List Int → Option core_New_L0X
def core_New_L0b (k : Nat) (rec : core_New_L0T) (s3 : Int) (s20 : List K11q) (s21 s22 : Int) (b0 : K21q) (b1 b2 : K5q) (r3 : List K10q) (m4 : List (List Int)) (r5 : List Int) (m6 : List (List Int)) (r7 : List Int) : Option core_New_L0X :=
 bif decide (s22 < s21) then (bif boundOk s22 s20.length then (bif roomB (r7.length + 1) 8 then (rec s3 s20 s21 (w64 (s22 + 1)) b0 b1 b2 r3 m4 r5 m6 (r7 ++ [(s20.getD s22.toNat (0, 0)).1]))
   else none)
  else none)
 else some (s3, b0, b1, b2, r3, m4, r5, m6, r7)
def core_New_L0 (k : Nat) : Nat → core_New_L0T := rounds (fun _ _ _ _ _ _ _ _ _ _ _ _ => none) (core_New_L0b k)
abbrev core_New_L1X : Type := K5q × K5q × (List K10q) × (List (List Int)) × (List Int) × (List (List Int)) × (List Int) × (List (List Int))
abbrev core_New_L1T : Type := Int → Int → K21q → K5q → K5q → List K10q → List (List Int) → List Int → List (List Int) → List Int → List (List Int) → Option core_New_L1X
def core_New_L1b (k : Nat) (rec : core_New_L1T) (s34 s35 : Int) (b0 : K21q) (b1 b2 : K5q) (r3 : List K10q) (m4 : List (List Int)) (r5 : List Int) (m6 : List (List Int)) (r7 : List Int) (m8 : List (List Int)) : Option core_New_L1X :=
 bif decide (s35 < s34) then (bif makeOk (b0.2.1.length : Int) (b0.2.1.length : Int) 8 then (bif roomB (m8.length + 1) 24 then (rec s34 (w64 (s35 + 1)) b0 b1 b2 r3 m4 r5 m6 r7 (m8 ++ [(List.replicate b0.2.1.length (0 : Int))]))
   else none)
  else none)
 else some (b1, b2, r3, m4, r5, m6, r7, m8)
def core_New_L1 (k : Nat) : Nat → core_New_L1T := rounds (fun _ _ _ _ _ _ _ _ _ _ _ => none) (core_New_L1b k)
def core_New (k : Nat) (a0 : K21q) : Option K17q :=
 bif makeOk a0.1 a0.1 24 then ((lim_Square k a0.1 (-1)).bind fun x0 =>
  (lim_Row k a0.1 (-1)).bind fun x1 =>
  (lim_Square k a0.1 0).bind fun x2 =>
  (core_New_L0 k k a0.1 a0.2.1 (a0.2.1.length : Int) 0 a0 (0, 0, false) (0, 0, false) (List.replicate a0.1.toNat ((0, 0, 0) : Int × Int × Int)) x0 x1 x2 []).bind fun z =>
  (core_New_L1 k k z.1 0 z.2.1 z.2.2.1 z.2.2.2.1 z.2.2.2.2.1 z.2.2.2.2.2.1 z.2.2.2.2.2.2.1 z.2.2.2.2.2.2.2.1 z.2.2.2.2.2.2.2.2 []).bind fun z1 =>
  some (z1.2.1.1, (f2_6 z1 ([], [], z1.2.1.2))))
 else none
def snap_bit (k : Nat) (a0 : Bool) : Option Int :=
 bif a0 then some 1
 else some 0
abbrev word_Put_L1X : Type := (List Int) × Int × Int × (List Int)
abbrev word_Put_L1T : Type := Int → Int → List Int → Int → Int → List Int → Option word_Put_L1X
def word_Put_L1b (k : Nat) (rec : word_Put_L1T) (s5 s6 : Int) (s11 : List Int) (s12 s13 : Int) (r0 : List Int) : Option word_Put_L1X :=
 bif decide (s6 ≥ 0) then (bif !(decide ((w64 (8 * s6)) < 0)) then (bif roomB (r0.length + 1) 1 then (rec s5 (w64 (s6 - 1)) s11 s12 s13 (r0 ++ [(IntKind.wrap .u8 ((shr .i64 s5 (w64 (8 * s6)))))]))
   else none)
  else none)
 else some (s11, s12, s13, r0)
def word_Put_L1 (k : Nat) : Nat → word_Put_L1T := rounds (fun _ _ _ _ _ _ => none) (word_Put_L1b k)
abbrev word_Put_L0T : Type := List Int → Int → Int → List Int → Option (List Int)
def word_Put_L0b (k : Nat) (rec : word_Put_L0T) (s11 : List Int) (s12 s13 : Int) (r0 : List Int) : Option (List Int) :=
 bif decide (s13 < s12) then (bif boundOk s13 s11.length then ((word_Put_L1 k k (s11.getD s13.toNat 0) 7 s11 s12 s13 r0).bind fun z =>
   rec z.1 z.2.1 (w64 (z.2.2.1 + 1)) z.2.2.2)
  else none)
 else some r0
def word_Put_L0 (k : Nat) : Nat → word_Put_L0T := rounds (fun _ _ _ _ => none) (word_Put_L0b k)
def word_Put (k : Nat) (a0 : List Int) : Option (List Int) :=
 bif makeOk 0 (w64 (8 * (a0.length : Int))) 1 then ((word_Put_L0 k k a0 (a0.length : Int) 0 []).bind fun z1 =>
  some z1)
 else none
def word_Row (k : Nat) (a0 : List Int) : Option (List Int) :=
 (word_Put k [(a0.length : Int)]).bind fun x0 =>
 (word_Put k a0).bind fun x1 =>
 bif roomB (x0.length + x1.length) 1 then some (x0 ++ x1)
 else none
abbrev snap_rows_L0T : Type := List (List Int) → Int → Int → List Int → Option (List Int)
def snap_rows_L0b (k : Nat) (rec : snap_rows_L0T) (s6 : List (List Int)) (s7 s8 : Int) (r0 : List Int) : Option (List Int) :=
 bif decide (s8 < s7) then (bif boundOk s8 s6.length then ((word_Row k (s6.getD s8.toNat [])).bind fun x0 =>
   bif roomB (r0.length + x0.length) 1 then (rec s6 s7 (w64 (s8 + 1)) (r0 ++ x0))
   else none)
  else none)
 else some r0
def snap_rows_L0 (k : Nat) : Nat → snap_rows_L0T := rounds (fun _ _ _ _ => none) (snap_rows_L0b k)
def snap_rows (k : Nat) (a0 : List (List Int)) : Option (List Int) :=
 (snap_rows_L0 k k a0 (a0.length : Int) 0 []).bind fun z =>
 some z
abbrev snap_Bytes_L0X : Type := K17q × K13q × (List (List Int))
abbrev snap_Bytes_L0T : Type := List K10q → Int → Int → K17q → K13q → List (List Int) → Option snap_Bytes_L0X
def snap_Bytes_L0b (k : Nat) (rec : snap_Bytes_L0T) (s39 : List K10q) (s40 s41 : Int) (b0 : K17q) (b1 : K13q) (r2 : List (List Int)) : Option snap_Bytes_L0X :=
 bif decide (s41 < s40) then (bif boundOk s41 s39.length then (bif roomB (r2.length + 1) 24 then (let y0 : List (List Int) := (r2 ++ [[(s39.getD s41.toNat (0, 0, 0)).1, (s39.getD s41.toNat (0, 0, 0)).2.1, (s39.getD s41.toNat (0, 0, 0)).2.2]])
    rec s39 s40 (w64 (s41 + 1)) b0 b1 y0)
   else none)
  else none)
 else some (b0, b1, r2)
def snap_Bytes_L0 (k : Nat) : Nat → snap_Bytes_L0T := rounds (fun _ _ _ _ _ _ => none) (snap_Bytes_L0b k)
abbrev snap_Bytes_L1X : Type := K17q × (List (List Int))
abbrev snap_Bytes_L1T : Type := List K9q → Int → Int → K17q → List (List Int) → Option snap_Bytes_L1X
def snap_Bytes_L1b (k : Nat) (rec : snap_Bytes_L1T) (s79 : List K9q) (s80 s81 : Int) (b0 : K17q) (r1 : List (List Int)) : Option snap_Bytes_L1X :=
 bif decide (s81 < s80) then (bif boundOk s81 s79.length then (bif roomB (r1.length + 1) 24 then (let y3 : List (List Int) := (r1 ++ [[(s79.getD s81.toNat (0, 0, 0, 0, 0, 0, 0)).1, (s79.getD s81.toNat (0, 0, 0, 0, 0, 0, 0)).2.1, (s79.getD s81.toNat (0, 0, 0, 0, 0, 0, 0)).2.2.1, (s79.getD s81.toNat (0, 0, 0, 0, 0, 0, 0)).2.2.2.1, (s79.getD s81.toNat (0, 0, 0, 0, 0, 0, 0)).2.2.2.2.1, (s79.getD s81.toNat (0, 0, 0, 0, 0, 0, 0)).2.2.2.2.2.1, (s79.getD s81.toNat (0, 0, 0, 0, 0, 0, 0)).2.2.2.2.2.2]])
    rec s79 s80 (w64 (s81 + 1)) b0 y3)
   else none)
  else none)
 else some (b0, r1)
def snap_Bytes_L1 (k : Nat) : Nat → snap_Bytes_L1T := rounds (fun _ _ _ _ _ => none) (snap_Bytes_L1b k)
def snap_Bytes (k : Nat) (a0 : K17q) : Option (List Int) :=
 (snap_bit k a0.2.2.2.2.2.2.2.2.2.2).bind fun x0 =>
 (snap_Bytes_L0 k k a0.2.1 (a0.2.1.length : Int) 0 a0 (g1_4 a0) [[a0.1, a0.2.2.2.2.2.2.2.2.2.1, x0, (a0.2.1.length : Int), (a0.2.2.1.length : Int), (a0.2.2.2.1.length : Int), (a0.2.2.2.2.1.length : Int), (a0.2.2.2.2.2.2.1.length : Int), (a0.2.2.2.2.2.2.2.1.length : Int)]]).bind fun z =>
 bif roomB (z.2.2.length + z.2.1.2.1.length) 24 then (bif roomB ((z.2.2 ++ z.2.1.2.1).length + 1) 24 then (let y1 : List (List Int) := ((z.2.2 ++ z.2.1.2.1) ++ [z.2.1.2.2.1])
   bif roomB (y1.length + z.2.1.2.2.2.length) 24 then (bif roomB ((y1 ++ z.2.1.2.2.2).length + 1) 24 then (let y2 : List (List Int) := ((y1 ++ z.2.1.2.2.2) ++ [z.1.2.2.2.2.2.1])
     bif roomB (y2.length + z.1.2.2.2.2.2.2.1.length) 24 then ((snap_Bytes_L1 k k z.1.2.2.2.2.2.2.2.1 (z.1.2.2.2.2.2.2.2.1.length : Int) 0 z.1 (y2 ++ z.1.2.2.2.2.2.2.1)).bind fun z1 =>
      bif roomB (z1.2.length + 1) 24 then (let y4 : List (List Int) := (z1.2 ++ [z1.1.2.2.2.2.2.2.2.2.1])
       (snap_rows k y4).bind fun x1 =>
       some x1)
      else none)
     else none)
    else none)
   else none)
  else none)
 else none
def rec_Put (k : Nat) (a0 : List Int) : Option K0q :=
 bif decide ((a0.length : Int) > 60000) then some ([], false)
 else bif roomB (2 + a0.length) 1 then some (([(IntKind.wrap .u8 ((shr .i64 (a0.length : Int) 8))), (IntKind.wrap .u8 ((a0.length : Int)))] ++ a0), true)
 else none
def tape_Deck_Room (k : Nat) (a0 : K2q) : Option Int :=
 some a0.1
def tape_Deck_Down (k : Nat) (a0 : K2q) : Option Bool :=
 some a0.2.2.2.2.2.2.2.2.1
def tape_Deck_falls (k : Nat) (a0 : K2q) : Option (Bool × K2q) :=
 bif !a0.2.2.2.2.2.2.2.1 then some (false, (j0_9 a0 (w64 (a0.2.2.2.2.2.2.2.2.2 + 1))))
 else bif decide (a0.2.2.2.2.2.2.2.2.2 < a0.2.2.2.2.2.1) then some (false, (j0_9 a0 (w64 (a0.2.2.2.2.2.2.2.2.2 + 1))))
 else bif (decide (0 ≤ (w64 (a0.2.2.1 + (maxI true (maxI false a0.2.2.2.2.2.2.1 0) (w64 ((a0.2.1.length : Int) - a0.2.2.1))))))) && (decide ((w64 (a0.2.2.1 + (maxI true (maxI false a0.2.2.2.2.2.2.1 0) (w64 ((a0.2.1.length : Int) - a0.2.2.1))))) ≤ (a0.2.1.length : Int))) then (bif (decide (0 ≤ (w64 (a0.2.2.2.2.1 + (maxI true (w64 ((maxI false a0.2.2.2.2.2.2.1 0) - (maxI true (maxI false a0.2.2.2.2.2.2.1 0) (w64 ((a0.2.1.length : Int) - a0.2.2.1))))) (w64 ((a0.2.2.2.1.length : Int) - a0.2.2.2.2.1))))))) && (decide ((w64 (a0.2.2.2.2.1 + (maxI true (w64 ((maxI false a0.2.2.2.2.2.2.1 0) - (maxI true (maxI false a0.2.2.2.2.2.2.1 0) (w64 ((a0.2.1.length : Int) - a0.2.2.1))))) (w64 ((a0.2.2.2.1.length : Int) - a0.2.2.2.2.1))))) ≤ (a0.2.2.2.1.length : Int))) then some (true, a0.1, (List.take ((w64 (a0.2.2.1 + (maxI true (maxI false a0.2.2.2.2.2.2.1 0) (w64 ((a0.2.1.length : Int) - a0.2.2.1))))).toNat - 0) a0.2.1), (w64 (a0.2.2.1 + (maxI true (maxI false a0.2.2.2.2.2.2.1 0) (w64 ((a0.2.1.length : Int) - a0.2.2.1))))), (List.take ((w64 (a0.2.2.2.2.1 + (maxI true (w64 ((maxI false a0.2.2.2.2.2.2.1 0) - (maxI true (maxI false a0.2.2.2.2.2.2.1 0) (w64 ((a0.2.1.length : Int) - a0.2.2.1))))) (w64 ((a0.2.2.2.1.length : Int) - a0.2.2.2.2.1))))).toNat - 0) a0.2.2.2.1), (w64 (a0.2.2.2.2.1 + (maxI true (w64 ((maxI false a0.2.2.2.2.2.2.1 0) - (maxI true (maxI false a0.2.2.2.2.2.2.1 0) (w64 ((a0.2.1.length : Int) - a0.2.2.1))))) (w64 ((a0.2.2.2.1.length : Int) - a0.2.2.2.2.1))))), a0.2.2.2.2.2.1, a0.2.2.2.2.2.2.1, a0.2.2.2.2.2.2.2.1, true, a0.2.2.2.2.2.2.2.2.2)
  else none)
 else none
def tape_Deck_Wipe (k : Nat) (a0 : K2q) (a1 : Int) : Option (Int × K2q) :=
 (tape_Deck_Down k a0).bind fun x0 =>
 bif x0 then some (11, a0)
 else (tape_isSide k a1).bind fun x1 =>
 bif !x1 then some (1, a0)
 else (tape_Deck_falls k a0).bind fun x2 =>
 bif x2.1 then some (11, x2.2)
 else bif decide (a1 = 0) then (bif decide (a1 = 0) then some (0, x2.2.1, [], 0, x2.2.2.2.2)
  else bif decide (a1 = 1) then some (0, x2.2.1, [], x2.2.2.2.1, x2.2.2.2.2.1, 0, x2.2.2.2.2.2.2)
  else none)
 else bif decide (a1 = 1) then (bif decide (a1 = 0) then some (0, x2.2.1, x2.2.2.1, 0, [], x2.2.2.2.2.2)
  else bif decide (a1 = 1) then some (0, x2.2.1, x2.2.2.1, x2.2.2.2.1, [], 0, x2.2.2.2.2.2.2)
  else none)
 else none
def tape_Deck_Append (k : Nat) (a0 : K2q) (a1 : Int) (a2 : List Int) : Option (Int × K2q) :=
 (tape_Deck_Down k a0).bind fun x0 =>
 bif x0 then some (11, a0)
 else (tape_isSide k a1).bind fun x1 =>
 bif !x1 then some (1, a0)
 else bif decide (a1 = 0) then (bif decide ((a2.length : Int) > (w64 (a0.1 - (a0.2.1.length : Int)))) then some (3, a0)
  else (tape_Deck_falls k a0).bind fun x2 =>
  bif x2.1 then some (11, x2.2)
  else bif decide (a1 = 0) then (bif roomB (x2.2.2.1.length + a2.length) 1 then some (0, x2.2.1, (x2.2.2.1 ++ a2), x2.2.2.2)
   else none)
  else bif decide (a1 = 1) then (bif roomB (x2.2.2.2.2.1.length + a2.length) 1 then some (0, x2.2.1, x2.2.2.1, x2.2.2.2.1, (x2.2.2.2.2.1 ++ a2), x2.2.2.2.2.2)
   else none)
  else none)
 else bif decide (a1 = 1) then (bif decide ((a2.length : Int) > (w64 (a0.1 - (a0.2.2.2.1.length : Int)))) then some (3, a0)
  else (tape_Deck_falls k a0).bind fun x3 =>
  bif x3.1 then some (11, x3.2)
  else bif decide (a1 = 0) then (bif roomB (x3.2.2.1.length + a2.length) 1 then some (0, x3.2.1, (x3.2.2.1 ++ a2), x3.2.2.2)
   else none)
  else bif decide (a1 = 1) then (bif roomB (x3.2.2.2.2.1.length + a2.length) 1 then some (0, x3.2.1, x3.2.2.1, x3.2.2.2.1, (x3.2.2.2.2.1 ++ a2), x3.2.2.2.2.2)
   else none)
  else none)
 else none
def tape_Deck_Sync (k : Nat) (a0 : K2q) : Option (Int × K2q) :=
 (tape_Deck_Down k a0).bind fun x0 =>
 bif x0 then some (11, a0)
 else (tape_Deck_falls k a0).bind fun x1 =>
 bif x1.1 then some (11, x1.2)
 else some (0, x1.2.1, x1.2.2.1, (x1.2.2.1.length : Int), x1.2.2.2.2.1, (x1.2.2.2.2.1.length : Int), x1.2.2.2.2.2.2)
def log_saves (k : Nat) (a0 : K2q) (a1 a2 : Int) (a3 : List Int) : Option (Int × K2q) :=
 (word_Put k [a2]).bind fun x0 =>
 bif roomB (x0.length + a3.length) 1 then ((rec_Put k (x0 ++ a3)).bind fun x1 =>
  bif !x1.2 then some (10, a0)
  else bif decide (a2 > 4611686018427387904) then some (10, a0)
  else (tape_Deck_Room k a0).bind fun x2 =>
  bif decide ((x1.1.length : Int) > x2) then some (10, a0)
  else (tape_Deck_Wipe k a0 a1).bind fun x3 =>
  bif !(decide (x3.1 = 0)) then some (x3.1, x3.2)
  else (tape_Deck_Append k x3.2 a1 x1.1).bind fun x4 =>
  bif !(decide (x4.1 = 0)) then some (x4.1, x4.2)
  else (tape_Deck_Sync k x4.2).bind fun x5 =>
  some (x5.1, x5.2))
 else none
def log_Open (k : Nat) (a0 : K2q) (a1 : List Int) : Option (((List Int) × (List (List Int)) × Int × K2q × K6q) ⊕ ((List Int) × (List (List Int)) × Int × K2q)) :=
 (log_Look k a0).bind fun x0 =>
 bif x0.2.2.2.2 then some (.inl (x0.2.2.1, x0.2.2.2.1, 0, a0, x0.2.1, x0.1, (x0.2.2.2.1.length : Int), true))
 else (log_saves k a0 0 1 a1).bind fun x1 =>
 bif !(decide (x1.1 = 0)) then some (.inr ([], [], x1.1, x1.2))
 else bif roomB (0 + a1.length) 1 then some (.inl (a1, [], 0, x1.2, 0, 1, 0, false))
 else none
def word_Next (k : Nat) (a0 : List Int) : Option ((List Int) × (List Int) × Bool) :=
 bif decide ((a0.length : Int) < 8) then some ([], [], false)
 else bif decide (8 ≤ (a0.length : Int)) then ((word_Get k (List.take 8 a0)).bind fun x0 =>
  bif decide (8 ≤ (a0.length : Int)) then (bif boundOk 0 x0.1.length then (bif decide ((x0.1.getD 0 0) < 0) then some ([], [], false)
    else bif boundOk 0 x0.1.length then (bif decide ((x0.1.getD 0 0) > (w64 (Int.tdiv ((List.drop 8 a0).length : Int) 8))) then some ([], [], false)
     else bif boundOk 0 x0.1.length then (bif (decide (0 ≤ (w64 (8 * (x0.1.getD 0 0))))) && (decide ((w64 (8 * (x0.1.getD 0 0))) ≤ ((List.drop 8 a0).length : Int))) then ((word_Get k (List.take (w64 (8 * (x0.1.getD 0 0))).toNat (List.drop 8 a0))).bind fun x1 =>
       bif (decide (0 ≤ (w64 (8 * (x0.1.getD 0 0))))) && (decide ((w64 (8 * (x0.1.getD 0 0))) ≤ ((List.drop 8 a0).length : Int))) then some (x1.1, (List.drop (w64 (8 * (x0.1.getD 0 0))).toNat (List.drop 8 a0)), true)
       else none)
      else none)
     else none)
    else none)
   else none)
  else none)
 else none
def snap_reader_row (k : Nat) (a0 : K0q) : Option ((List Int) × K0q) :=
 (word_Next k a0.1).bind fun x0 =>
 bif a0.2 then some (x0.1, x0.2.1, true)
 else some (x0.1, x0.2.1, (!x0.2.2))
def snap_reader_just (k : Nat) (a0 : K0q) (a1 : Int) : Option ((List Int) × K0q) :=
 (snap_reader_row k a0).bind fun x0 =>
 bif !(decide ((x0.1.length : Int) = a1)) then (bif makeOk a1 a1 8 then some ((List.replicate a1.toNat (0 : Int)), x0.2.1, true)
  else none)
 else some (x0.1, x0.2)
abbrev snap_reader_square_L0X : Type := K0q × (List (List Int))
abbrev snap_reader_square_L0T : Type := Int → K0q → List (List Int) → Option snap_reader_square_L0X
def snap_reader_square_L0b (k : Nat) (rec : snap_reader_square_L0T) (s1 : Int) (b0 : K0q) (r1 : List (List Int)) : Option snap_reader_square_L0X :=
 bif decide (s1 > 0) then (bif !b0.2 then ((snap_reader_row k b0).bind fun x0 =>
   bif roomB (r1.length + 1) 24 then (rec (w64 (s1 - 1)) x0.2 (r1 ++ [x0.1]))
   else none)
  else some (b0, r1))
 else some (b0, r1)
def snap_reader_square_L0 (k : Nat) : Nat → snap_reader_square_L0T := rounds (fun _ _ _ => none) (snap_reader_square_L0b k)
def snap_reader_square (k : Nat) (a0 : K0q) (a1 : Int) : Option ((List (List Int)) × K0q) :=
 (snap_reader_square_L0 k k a1 a0 []).bind fun z =>
 some (z.2, z.1)
def bytes_Equal (k : Nat) (a0 a1 : List Int) : Option Bool :=
 some (strEq a0 a1)
abbrev snap_Read_L0X : Type := (List Int) × K5q × K0q × (List Int) × K5q × (List K10q)
abbrev snap_Read_L0T : Type := List Int → Int → K5q → K0q → List Int → K5q → List K10q → Option snap_Read_L0X
def snap_Read_L0b (k : Nat) (rec : snap_Read_L0T) (s0 : List Int) (s7 : Int) (b0 : K5q) (b1 : K0q) (r2 : List Int) (b3 : K5q) (r4 : List K10q) : Option snap_Read_L0X :=
 bif decide (s7 > 0) then (bif !b1.2 then ((snap_reader_just k b1 3).bind fun x1 =>
   bif boundOk 0 x1.1.length then (bif boundOk 1 x1.1.length then (bif boundOk 2 x1.1.length then (bif roomB (r4.length + 1) 24 then (let y0 : List K10q := (r4 ++ [((x1.1.getD 0 0), (x1.1.getD 1 0), (x1.1.getD 2 0))])
       rec s0 (w64 (s7 - 1)) b0 x1.2 r2 b3 y0)
      else none)
     else none)
    else none)
   else none)
  else some (s0, b0, b1, r2, b3, r4))
 else some (s0, b0, b1, r2, b3, r4)
def snap_Read_L0 (k : Nat) : Nat → snap_Read_L0T := rounds (fun _ _ _ _ _ _ _ => none) (snap_Read_L0b k)
abbrev snap_Read_L1X : Type := (List Int) × K5q × K0q × K5q × (List K10q) × (List (List Int)) × (List Int) × (List (List Int)) × (List Int) × (List (List Int)) × (List K9q)
abbrev snap_Read_L1T : Type := List Int → Int → K5q → K0q → K5q → List K10q → List (List Int) → List Int → List (List Int) → List Int → List (List Int) → List K9q → Option snap_Read_L1X
def snap_Read_L1b (k : Nat) (rec : snap_Read_L1T) (s0 : List Int) (s9 : Int) (b0 : K5q) (b1 : K0q) (b2 : K5q) (r3 : List K10q) (r4 : List (List Int)) (r5 : List Int) (r6 : List (List Int)) (r7 : List Int) (r8 : List (List Int)) (r9 : List K9q) : Option snap_Read_L1X :=
 bif decide (s9 > 0) then (bif !b1.2 then ((snap_reader_just k b1 7).bind fun x7 =>
   bif boundOk 0 x7.1.length then (bif boundOk 1 x7.1.length then (bif boundOk 2 x7.1.length then (bif boundOk 3 x7.1.length then (bif boundOk 4 x7.1.length then (bif boundOk 5 x7.1.length then (bif boundOk 6 x7.1.length then (bif roomB (r9.length + 1) 56 then (let y1 : List K9q := (r9 ++ [((x7.1.getD 0 0), (x7.1.getD 1 0), (x7.1.getD 2 0), (x7.1.getD 3 0), (x7.1.getD 4 0), (x7.1.getD 5 0), (x7.1.getD 6 0))])
           rec s0 (w64 (s9 - 1)) b0 x7.2 b2 r3 r4 r5 r6 r7 r8 y1)
          else none)
         else none)
        else none)
       else none)
      else none)
     else none)
    else none)
   else none)
  else some (s0, b0, b1, b2, r3, r4, r5, r6, r7, r8, r9))
 else some (s0, b0, b1, b2, r3, r4, r5, r6, r7, r8, r9)
def snap_Read_L1 (k : Nat) : Nat → snap_Read_L1T := rounds (fun _ _ _ _ _ _ _ _ _ _ _ _ => none) (snap_Read_L1b k)
def snap_Read (k : Nat) (a0 : List Int) : Option (K17q × Bool) :=
 (snap_reader_just k (a0, false) 9).bind fun x0 =>
 bif boundOk 0 x0.1.length then (bif boundOk 1 x0.1.length then (bif boundOk 2 x0.1.length then (bif boundOk 3 x0.1.length then ((snap_Read_L0 k k a0 (x0.1.getD 3 0) (0, 0, false) x0.2 x0.1 ((x0.1.getD 0 0), (x0.1.getD 1 0), (decide ((x0.1.getD 2 0) = 1))) []).bind fun z =>
     bif boundOk 4 z.2.2.2.1.length then ((snap_reader_square k z.2.2.1 (z.2.2.2.1.getD 4 0)).bind fun x2 =>
      (snap_reader_row k x2.2).bind fun x3 =>
      bif boundOk 6 z.2.2.2.1.length then ((snap_reader_square k x3.2 (z.2.2.2.1.getD 6 0)).bind fun x4 =>
       (snap_reader_row k x4.2).bind fun x5 =>
       bif boundOk 7 z.2.2.2.1.length then ((snap_reader_square k x5.2 (z.2.2.2.1.getD 7 0)).bind fun x6 =>
        bif boundOk 8 z.2.2.2.1.length then ((snap_Read_L1 k k z.1 (z.2.2.2.1.getD 8 0) z.2.1 x6.2 z.2.2.2.2.1 z.2.2.2.2.2 x2.1 x3.1 x4.1 x5.1 x6.1 []).bind fun z1 =>
         (snap_reader_row k z1.2.2.1).bind fun x8 =>
         bif x8.2.2 then some ((0, [], [], [], [], [], [], [], [], 0, false), false)
         else (snap_Bytes k (z1.2.2.2.1.1, (f4_7 z1 (x8.1, z1.2.2.2.1.2)))).bind fun x9 =>
         (bytes_Equal k x9 z1.1).bind fun x10 =>
         bif !x10 then some ((0, [], [], [], [], [], [], [], [], 0, false), false)
         else some ((z1.2.2.2.1.1, (f4_7 z1 (x8.1, z1.2.2.2.1.2))), true))
        else none)
       else none)
      else none)
     else none)
    else none)
   else none)
  else none)
 else none
def msg_Many (k : Nat) (a0 : Int) : Option Int :=
 bif decide (a0 = 9) then some 0
 else bif decide (a0 = 13) then some 0
 else bif decide (a0 = 14) then some 0
 else bif decide (a0 = 15) then some 0
 else bif decide (a0 = 2) then some 1
 else bif decide (a0 = 6) then some 1
 else bif decide (a0 = 7) then some 1
 else bif decide (a0 = 16) then some 1
 else bif decide (a0 = 19) then some 1
 else bif decide (a0 = 20) then some 1
 else bif decide (a0 = 21) then some 1
 else bif decide (a0 = 22) then some 1
 else bif decide (a0 = 23) then some 1
 else bif decide (a0 = 3) then some 2
 else bif decide (a0 = 4) then some 2
 else bif decide (a0 = 5) then some 2
 else bif decide (a0 = 8) then some 2
 else bif decide (a0 = 10) then some 2
 else bif decide (a0 = 11) then some 2
 else bif decide (a0 = 12) then some 2
 else bif decide (a0 = 18) then some 4
 else bif decide (a0 = 17) then some 5
 else bif decide (a0 = 1) then some 6
 else some (-1)
def msg_Read (k : Nat) (a0 : List Int) : Option (K9q × Int) :=
 bif decide ((a0.length : Int) = 0) then some ((0, 0, 0, 0, 0, 0, 0), 2)
 else bif decide (1 ≤ (a0.length : Int)) then ((word_Get k (List.drop 1 a0)).bind fun x0 =>
  bif !(decide (x0.2 = 0)) then some ((0, 0, 0, 0, 0, 0, 0), 2)
  else bif boundOk 0 a0.length then ((msg_Many k (w64 ((a0.getD 0 0)))).bind fun x1 =>
   bif !(decide ((x0.1.length : Int) = x1)) then some ((0, 0, 0, 0, 0, 0, 0), 2)
   else bif boundOk 0 a0.length then some (((w64 ((a0.getD 0 0))), (bif (Nat.blt 0 x0.1.length) then (x0.1.getD 0 0) else 0), (bif (Nat.blt 1 x0.1.length) then (x0.1.getD 1 0) else 0), (bif (Nat.blt 2 x0.1.length) then (x0.1.getD 2 0) else 0), (bif (Nat.blt 3 x0.1.length) then (x0.1.getD 3 0) else 0), (bif (Nat.blt 4 x0.1.length) then (x0.1.getD 4 0) else 0), (bif (Nat.blt 5 x0.1.length) then (x0.1.getD 5 0) else 0)), 0)
   else none)
  else none)
 else none
def msg_ReadCmd (k : Nat) (a0 : List Int) : Option (K8q × Int) :=
 bif decide ((a0.length : Int) < 8) then some ((0, 0, 0, 0, 0, 0, 0, 0), 2)
 else bif decide (8 ≤ (a0.length : Int)) then ((word_Get k (List.take 8 a0)).bind fun x0 =>
  bif decide (8 ≤ (a0.length : Int)) then ((msg_Read k (List.drop 8 a0)).bind fun x1 =>
   bif !(decide (x1.2 = 0)) then some ((0, 0, 0, 0, 0, 0, 0, 0), 2)
   else bif boundOk 0 x0.1.length then some (((x0.1.getD 0 0), x1.1), 0)
   else none)
  else none)
 else none
def msg_Host (k : Nat) (a0 : Int) : Option Bool :=
 bif decide (a0 ≥ 10) then some (decide (a0 ≤ 14))
 else some false
def msg_Asked (k : Nat) (a0 : Int) : Option Bool :=
 bif decide (a0 ≥ 1) then some (decide (a0 ≤ 14))
 else some false
abbrev msg_Is_L0T : Type := List Int → Int → Int → Option (Unit ⊕ Bool)
def msg_Is_L0b (k : Nat) (rec : msg_Is_L0T) (s13 : List Int) (s14 s15 : Int) : Option (Unit ⊕ Bool) :=
 bif decide (s15 < s14) then (bif boundOk s15 s13.length then (bif !(decide ((s13.getD s15.toNat 0) = 0)) then some (.inr false)
   else rec s13 s14 (w64 (s15 + 1)))
  else none)
 else some (.inl ())
def msg_Is_L0 (k : Nat) : Nat → msg_Is_L0T := rounds (fun _ _ _ => none) (msg_Is_L0b k)
def msg_Is (k : Nat) (a0 : K9q) : Option Bool :=
 (msg_Many k a0.1).bind fun x0 =>
 bif decide (x0 < 0) then some false
 else bif (decide (0 ≤ x0)) && (decide (x0 ≤ 6)) then ((msg_Is_L0 k k (slc [a0.2.1, a0.2.2.1, a0.2.2.2.1, a0.2.2.2.2.1, a0.2.2.2.2.2.1, a0.2.2.2.2.2.2] x0.toNat (6 - x0.toNat)) ((slc [a0.2.1, a0.2.2.1, a0.2.2.2.1, a0.2.2.2.2.1, a0.2.2.2.2.2.1, a0.2.2.2.2.2.2] x0.toNat (6 - x0.toNat)).length : Int) 0).bind fun z =>
  match z with
  | .inl z1 => some true
  | .inr z2 => some z2)
 else none
def core_may (k : Nat) (a0 : K21q) (a1 : K17q) (a2 : K8q) : Option Int :=
 (msg_Host k a2.2.1).bind fun x0 =>
 bif decide (a2.1 ≥ 0) then ((msg_Asked k a2.2.1).bind fun x1 =>
  bif !x1 then some 5
  else (msg_Is k a2.2).bind fun x2 =>
  bif !x2 then some 5
  else bif x0 then (bif !(decide (a2.1 = (-1))) then some 5
   else bif !x0 then (bif !(decide (a2.1 < a0.1)) then some 5
    else bif a1.2.2.2.2.2.2.2.2.2.2 then (bif !(decide (a2.2.1 = 9)) then some 7
     else some 0)
    else some 0)
   else bif a1.2.2.2.2.2.2.2.2.2.2 then (bif !(decide (a2.2.1 = 9)) then some 7
    else some 0)
   else some 0)
  else bif !x0 then (bif !(decide (a2.1 < a0.1)) then some 5
   else bif a1.2.2.2.2.2.2.2.2.2.2 then (bif !(decide (a2.2.1 = 9)) then some 7
    else some 0)
   else some 0)
  else bif a1.2.2.2.2.2.2.2.2.2.2 then (bif !(decide (a2.2.1 = 9)) then some 7
   else some 0)
  else some 0)
 else (msg_Asked k a2.2.1).bind fun x3 =>
 bif !x3 then some 5
 else (msg_Is k a2.2).bind fun x4 =>
 bif !x4 then some 5
 else bif x0 then (bif !(decide (a2.1 = (-1))) then some 5
  else bif !x0 then some 5
  else bif a1.2.2.2.2.2.2.2.2.2.2 then (bif !(decide (a2.2.1 = 9)) then some 7
   else some 0)
  else some 0)
 else bif !x0 then some 5
 else bif a1.2.2.2.2.2.2.2.2.2.2 then (bif !(decide (a2.2.1 = 9)) then some 7
  else some 0)
 else some 0
def view_Of_fn1 (k : Nat) (a0ID a0From a0To a0Amount a0Class a0Start a0Till a1 : Int) : Option Bool :=
 some (decide (a0From = a1))
abbrev view_all__view_Of_fn1_L0X : Type := List K9q
abbrev view_all__view_Of_fn1_L0T : Type := List K9q → Int → Int → Int → List K9q → Option view_all__view_Of_fn1_L0X
def view_all__view_Of_fn1_L0b (k : Nat) (rec : view_all__view_Of_fn1_L0T) (s8 : List K9q) (s9 s10 b0_0 : Int) (r1 : List K9q) : Option view_all__view_Of_fn1_L0X :=
 bif decide (s10 < s9) then (bif boundOk s10 s8.length then ((view_Of_fn1 k (s8.getD s10.toNat (0, 0, 0, 0, 0, 0, 0)).1 (s8.getD s10.toNat (0, 0, 0, 0, 0, 0, 0)).2.1 (s8.getD s10.toNat (0, 0, 0, 0, 0, 0, 0)).2.2.1 (s8.getD s10.toNat (0, 0, 0, 0, 0, 0, 0)).2.2.2.1 (s8.getD s10.toNat (0, 0, 0, 0, 0, 0, 0)).2.2.2.2.1 (s8.getD s10.toNat (0, 0, 0, 0, 0, 0, 0)).2.2.2.2.2.1 (s8.getD s10.toNat (0, 0, 0, 0, 0, 0, 0)).2.2.2.2.2.2 b0_0).bind fun x0 =>
   bif x0 then (bif roomB (r1.length + 1) 56 then (let y0 : List K9q := (r1 ++ [(s8.getD s10.toNat (0, 0, 0, 0, 0, 0, 0))])
     rec s8 s9 (w64 (s10 + 1)) b0_0 y0)
    else none)
   else rec s8 s9 (w64 (s10 + 1)) b0_0 r1)
  else none)
 else some r1
def view_all__view_Of_fn1_L0 (k : Nat) : Nat → view_all__view_Of_fn1_L0T
 | 0, _, _, _, _, _ => none
 | n + 1, s8, s9, s10, b0_0, r1 => view_all__view_Of_fn1_L0b k (view_all__view_Of_fn1_L0 k n) s8 s9 s10 b0_0 r1
def view_all__view_Of_fn1 (k : Nat) (a0 : List K9q) (a1_0 : Int) : Option (List K9q) :=
 (view_all__view_Of_fn1_L0 k k a0 (a0.length : Int) 0 a1_0 []).bind fun z =>
 some z
def view_Of (k : Nat) (a0 : List K9q) (a1 : Int) : Option (List K9q) :=
 (view_all__view_Of_fn1 k a0 a1).bind fun x0 =>
 some x0
def core_desk_tells (k : Nat) (a0 : (Int × Int × Int × Int × Int × Int × Bool × Int)) (a1 : Int) (a2 : List Int) : Option K18q :=
 some (a0.1, [], (j1_4 a0 ([], [], [], [], [], [], [], [], a0.2.2.2.2.2.1, a0.2.2.2.2.2.2.1, a0.2.2.2.2.2.2.2, [(a0.2.2.2.2.2.2.2, a1, (bif (Nat.blt 0 a2.length) then (a2.getD 0 0) else 0), (bif (Nat.blt 1 a2.length) then (a2.getD 1 0) else 0), (bif (Nat.blt 2 a2.length) then (a2.getD 2 0) else 0), (bif (Nat.blt 3 a2.length) then (a2.getD 3 0) else 0), (bif (Nat.blt 4 a2.length) then (a2.getD 4 0) else 0), (bif (Nat.blt 5 a2.length) then (a2.getD 5 0) else 0))])))
def core_query (k : Nat) (a0 : K17q) (a1 : Int) : Option (List K8q) :=
 bif boundOk a1 a0.2.1.length then ((view_Of k a0.2.2.2.2.2.2.2.1 a1).bind fun x0 =>
  (core_desk_tells k (0, 0, 0, 0, 0, 0, false, a1) 17 [(a0.2.1.getD a1.toNat (0, 0, 0)).1, (a0.2.1.getD a1.toNat (0, 0, 0)).2.1, (a0.2.1.getD a1.toNat (0, 0, 0)).2.2, (x0.length : Int), a0.1]).bind fun x1 =>
  some x1.2.2.2.2.2.2.2.2.2.2.2.2.2.2.2.2.2)
 else none
def core_desk_tells_v2 (k : Nat) (a0 : K20q) (a1 : Int) (a2 : List Int) : Option K18q :=
 some (f0_17 a0 [(a0.2.2.2.2.2.2.2.2.2.2.2.2.2.2.2.2, a1, (bif (Nat.blt 0 a2.length) then (a2.getD 0 0) else 0), (bif (Nat.blt 1 a2.length) then (a2.getD 1 0) else 0), (bif (Nat.blt 2 a2.length) then (a2.getD 2 0) else 0), (bif (Nat.blt 3 a2.length) then (a2.getD 3 0) else 0), (bif (Nat.blt 4 a2.length) then (a2.getD 4 0) else 0), (bif (Nat.blt 5 a2.length) then (a2.getD 5 0) else 0))])
def core_in (k : Nat) (a0 a1 a2 : Int) : Option Bool :=
 bif decide (a0 ≥ a1) then some (decide (a0 ≤ a2))
 else some false
def pay_isParty (k : Nat) (a0 : K21q) (a1 : Int) : Option Bool :=
 bif decide (a1 ≥ 0) then some (decide (a1 < a0.1))
 else some false
def pay_isPay (k : Nat) (a0 : K21q) (a1 : Int) (a2 : K9q) : Option Bool :=
 (pay_isParty k a0 a2.2.1).bind fun x0 =>
 bif x0 then ((pay_isParty k a0 a2.2.2.1).bind fun x1 =>
  bif x1 then (bif decide (a2.1 ≥ 1) then (bif decide (a2.2.2.2.1 ≥ 1) then (bif decide (a2.2.2.2.1 ≤ 1099511627776) then (bif decide (a2.2.2.2.2.1 ≥ 1) then (bif !(decide (a2.2.1 = a2.2.2.1)) then (bif decide (a2.2.2.2.2.1 ≤ 3) then (bif decide (a2.2.2.2.2.2.1 ≥ 0) then (bif decide (a2.2.2.2.2.2.1 ≤ a2.2.2.2.2.2.2) then (bif decide (a2.2.2.2.2.2.2 ≥ a1) then some (decide (a2.2.2.2.2.2.2 ≤ 1048576))
           else some false)
          else some false)
         else some false)
        else some false)
       else some false)
      else bif !(decide (a2.2.1 = a2.2.2.1)) then some false
      else some false)
     else bif !(decide (a2.2.1 = a2.2.2.1)) then some false
     else some false)
    else bif !(decide (a2.2.1 = a2.2.2.1)) then some false
    else some false)
   else bif !(decide (a2.2.1 = a2.2.2.1)) then some false
   else some false)
  else bif decide (a2.1 ≥ 1) then (bif decide (a2.2.2.2.1 ≥ 1) then (bif decide (a2.2.2.2.1 ≤ 1099511627776) then (bif decide (a2.2.2.2.2.1 ≥ 1) then some false
     else some false)
    else some false)
   else some false)
  else some false)
 else bif decide (a2.1 ≥ 1) then (bif decide (a2.2.2.2.1 ≥ 1) then (bif decide (a2.2.2.2.1 ≤ 1099511627776) then (bif decide (a2.2.2.2.2.1 ≥ 1) then some false
    else some false)
   else some false)
  else some false)
 else some false
def day_May (k : Nat) (a0 : K21q) (a1 a2 : Int) : Option Int :=
 bif decide (a1 ≥ a0.2.2.2.1) then some 7
 else bif decide (a2 = 3) then (bif decide (a1 ≥ a0.2.2.1) then some 7
  else some 0)
 else some 0
def pay_Check (k : Nat) (a0 : K21q) (a1 : Int) (a2 : K9q) : Option Int :=
 (pay_isPay k a0 a1 a2).bind fun x0 =>
 bif !x0 then some 1
 else (day_May k a0 a1 a2.2.2.2.2.1).bind fun x1 =>
 some x1
def cmp_isNaN_int64 (k : Nat) (a0 : Int) : Option Bool :=
 some (!(decide (a0 = a0)))
def cmp_Less_int64 (k : Nat) (a0 a1 : Int) : Option Bool :=
 (cmp_isNaN_int64 k a0).bind fun x0 =>
 bif x0 then ((cmp_isNaN_int64 k a1).bind fun x1 =>
  bif !x1 then some true
  else some (decide (a0 < a1)))
 else some (decide (a0 < a1))
def slices_isNaN_int64 (k : Nat) (a0 : Int) : Option Bool :=
 some (!(decide (a0 = a0)))
abbrev slices_BinarySearch_int64_L0X : Type := (List Int) × Int × Int × Int
abbrev slices_BinarySearch_int64_L0T : Type := List Int → Int → Int → Int → Int → Option slices_BinarySearch_int64_L0X
def slices_BinarySearch_int64_L0b (k : Nat) (rec : slices_BinarySearch_int64_L0T) (s0 : List Int) (s1 s6 s7 s8 : Int) : Option slices_BinarySearch_int64_L0X :=
 bif decide (s7 < s8) then (bif boundOk (w64 ((shr .u64 (IntKind.wrap .u64 ((w64 (s7 + s8)))) 1))) s0.length then ((cmp_Less_int64 k (s0.getD (w64 ((shr .u64 (IntKind.wrap .u64 ((w64 (s7 + s8)))) 1))).toNat 0) s1).bind fun x0 =>
   bif x0 then (rec s0 s1 s6 (w64 ((w64 ((shr .u64 (IntKind.wrap .u64 ((w64 (s7 + s8)))) 1))) + 1)) s8)
   else rec s0 s1 s6 s7 (w64 ((shr .u64 (IntKind.wrap .u64 ((w64 (s7 + s8)))) 1))))
  else none)
 else some (s0, s1, s6, s7)
def slices_BinarySearch_int64_L0 (k : Nat) : Nat → slices_BinarySearch_int64_L0T := rounds (fun _ _ _ _ _ => none) (slices_BinarySearch_int64_L0b k)
def slices_BinarySearch_int64 (k : Nat) (a0 : List Int) (a1 : Int) : Option (Int × Bool) :=
 (slices_BinarySearch_int64_L0 k k a0 a1 (a0.length : Int) 0 (a0.length : Int)).bind fun z =>
 bif decide (z.2.2.2 < z.2.2.1) then (bif boundOk z.2.2.2 z.1.length then (bif decide ((z.1.getD z.2.2.2.toNat 0) = z.2.1) then some (z.2.2.2, true)
   else bif boundOk z.2.2.2 z.1.length then ((slices_isNaN_int64 k (z.1.getD z.2.2.2.toNat 0)).bind fun x1 =>
    bif x1 then ((slices_isNaN_int64 k z.2.1).bind fun x2 =>
     some (z.2.2.2, x2))
    else some (z.2.2.2, false))
   else none)
  else none)
 else some (z.2.2.2, false)
def slices_Clone_int64 (k : Nat) (a0 : List Int) : Option (List Int) :=
 bif roomB (0 + a0.length) 8 then some a0
 else none
abbrev slices_Insert_int64 (k : Nat) (a0 : List Int) (a1 : Int) (a2 : List Int) : Option (List Int) := ins 8 a0 a1 a2
def ids_Add (k : Nat) (a0 : List Int) (a1 : Int) : Option ((List Int) × Int) :=
 (slices_BinarySearch_int64 k a0 a1).bind fun x0 =>
 bif x0.2 then some (a0, 6)
 else bif decide ((a0.length : Int) ≥ 200) then some (a0, 3)
 else (slices_Clone_int64 k a0).bind fun x1 =>
 (slices_Insert_int64 k x1 x0.1 [a1]).bind fun x2 =>
 some (x2, 0)
def row_Find_fn1 (k : Nat) (a0ID a0From a0To a0Amount a0Class a0Start a0Till a1 : Int) : Option Bool :=
 some (decide (a0ID = a1))
abbrev slices_IndexFunc_Pay__row_Find_fn1_L0T : Type := List K9q → Int → Int → Int → Option (Unit ⊕ Int)
def slices_IndexFunc_Pay__row_Find_fn1_L0b (k : Nat) (rec : slices_IndexFunc_Pay__row_Find_fn1_L0T) (s0 : List K9q) (s7 s8 b0_0 : Int) : Option (Unit ⊕ Int) :=
 bif decide (s8 < s7) then (bif boundOk s8 s0.length then ((row_Find_fn1 k (s0.getD s8.toNat (0, 0, 0, 0, 0, 0, 0)).1 (s0.getD s8.toNat (0, 0, 0, 0, 0, 0, 0)).2.1 (s0.getD s8.toNat (0, 0, 0, 0, 0, 0, 0)).2.2.1 (s0.getD s8.toNat (0, 0, 0, 0, 0, 0, 0)).2.2.2.1 (s0.getD s8.toNat (0, 0, 0, 0, 0, 0, 0)).2.2.2.2.1 (s0.getD s8.toNat (0, 0, 0, 0, 0, 0, 0)).2.2.2.2.2.1 (s0.getD s8.toNat (0, 0, 0, 0, 0, 0, 0)).2.2.2.2.2.2 b0_0).bind fun x0 =>
   bif x0 then some (.inr s8)
   else rec s0 s7 (w64 (s8 + 1)) b0_0)
  else none)
 else some (.inl ())
def slices_IndexFunc_Pay__row_Find_fn1_L0 (k : Nat) : Nat → slices_IndexFunc_Pay__row_Find_fn1_L0T
 | 0, _, _, _, _ => none
 | n + 1, s0, s7, s8, b0_0 => slices_IndexFunc_Pay__row_Find_fn1_L0b k (slices_IndexFunc_Pay__row_Find_fn1_L0 k n) s0 s7 s8 b0_0
def slices_IndexFunc_Pay__row_Find_fn1 (k : Nat) (a0 : List K9q) (a1_0 : Int) : Option Int :=
 (slices_IndexFunc_Pay__row_Find_fn1_L0 k k a0 (a0.length : Int) 0 a1_0).bind fun z =>
 match z with
 | .inl z1 => some (-1)
 | .inr z2 => some z2
def row_Find (k : Nat) (a0 : List K9q) (a1 : Int) : Option Int :=
 (slices_IndexFunc_Pay__row_Find_fn1 k a0 a1).bind fun x0 =>
 some x0
def cmp_isNaN_int (k : Nat) (a0 : Int) : Option Bool :=
 some (!(decide (a0 = a0)))
def cmp_Compare_int (k : Nat) (a0 a1 : Int) : Option Int :=
 (cmp_isNaN_int k a0).bind fun x0 =>
 (cmp_isNaN_int k a1).bind fun x1 =>
 bif x0 then (bif x1 then some 0
  else some (-1))
 else bif x1 then some 1
 else bif decide (a0 < a1) then some (-1)
 else bif decide (a0 > a1) then some 1
 else some 0
abbrev cmp_Or_int_L0T : Type := Int → List Int → Int → Int → Option (Int ⊕ Int)
def cmp_Or_int_L0b (k : Nat) (rec : cmp_Or_int_L0T) (s3 : Int) (s6 : List Int) (s7 s8 : Int) : Option (Int ⊕ Int) :=
 bif decide (s8 < s7) then (bif boundOk s8 s6.length then (bif !(decide ((s6.getD s8.toNat 0) = s3)) then some (.inr (s6.getD s8.toNat 0))
   else rec s3 s6 s7 (w64 (s8 + 1)))
  else none)
 else some (.inl s3)
def cmp_Or_int_L0 (k : Nat) : Nat → cmp_Or_int_L0T
 | 0, _, _, _, _ => none
 | n + 1, s3, s6, s7, s8 => cmp_Or_int_L0b k (cmp_Or_int_L0 k n) s3 s6 s7 s8
def cmp_Or_int (k : Nat) (a0 : List Int) : Option Int :=
 (cmp_Or_int_L0 k k 0 a0 (a0.length : Int) 0).bind fun z =>
 match z with
 | .inl z1 => some z1
 | .inr z2 => some z2
def row_order (k : Nat) (a0ID a0From a0To a0Amount a0Class a0Start a0Till a1ID a1From a1To a1Amount a1Class a1Start a1Till : Int) : Option Int :=
 (cmp_Compare_int k a0From a1From).bind fun x0 =>
 (cmp_Compare_int k a0Class a1Class).bind fun x1 =>
 (cmp_Or_int k [x0, x1]).bind fun x2 =>
 some x2
def slices_Clone_Pay (k : Nat) (a0 : List K9q) : Option (List K9q) :=
 bif roomB (0 + a0.length) 56 then some a0
 else none
abbrev slices_Insert_Pay (k : Nat) (a0 : List K9q) (a1 : Int) (a2 : List K9q) : Option (List K9q) := ins 56 a0 a1 a2
abbrev row_Put_L0X : Type := (List K9q) × Int × K9q
abbrev row_Put_L0T : Type := List K9q → Int → K9q → Option row_Put_L0X
def row_Put_L0b (k : Nat) (rec : row_Put_L0T) (s0 : List K9q) (s6 : Int) (b0 : K9q) : Option row_Put_L0X :=
 bif decide (s6 < (s0.length : Int)) then (bif boundOk s6 s0.length then ((row_order k (s0.getD s6.toNat (0, 0, 0, 0, 0, 0, 0)).1 (s0.getD s6.toNat (0, 0, 0, 0, 0, 0, 0)).2.1 (s0.getD s6.toNat (0, 0, 0, 0, 0, 0, 0)).2.2.1 (s0.getD s6.toNat (0, 0, 0, 0, 0, 0, 0)).2.2.2.1 (s0.getD s6.toNat (0, 0, 0, 0, 0, 0, 0)).2.2.2.2.1 (s0.getD s6.toNat (0, 0, 0, 0, 0, 0, 0)).2.2.2.2.2.1 (s0.getD s6.toNat (0, 0, 0, 0, 0, 0, 0)).2.2.2.2.2.2 b0.1 b0.2.1 b0.2.2.1 b0.2.2.2.1 b0.2.2.2.2.1 b0.2.2.2.2.2.1 b0.2.2.2.2.2.2).bind fun x1 =>
   bif decide (x1 ≤ 0) then (rec s0 (w64 (s6 + 1)) b0)
   else some (s0, s6, b0))
  else none)
 else some (s0, s6, b0)
def row_Put_L0 (k : Nat) : Nat → row_Put_L0T := rounds (fun _ _ _ => none) (row_Put_L0b k)
def row_Put (k : Nat) (a0 : List K9q) (a1 : K9q) : Option ((List K9q) × Int) :=
 (row_Find k a0 a1.1).bind fun x0 =>
 bif decide (x0 ≥ 0) then some (a0, 6)
 else bif decide ((a0.length : Int) ≥ 40) then some (a0, 3)
 else (row_Put_L0 k k a0 0 a1).bind fun z =>
 (slices_Clone_Pay k z.1).bind fun x2 =>
 (slices_Insert_Pay k x2 z.2.1 [z.2.2]).bind fun x3 =>
 some (x3, 0)
def core_desk_pays (k : Nat) (a0 : K18q) (a1 : (Int × Int × Int × Int × Int × Int)) : Option (Int × K18q) :=
 (core_in k a1.2.1 0 (w64 (a0.1 - 1))).bind fun x0 =>
 bif !x0 then some (1, a0)
 else (core_in k a1.2.2.2.1 1 3).bind fun x1 =>
 bif !x1 then some (1, a0)
 else (pay_Check k (g0_5 a0) a0.2.2.2.2.2.1 (a1.1, a0.2.2.2.2.2.2.2.2.2.2.2.2.2.2.2.2.1, a1.2)).bind fun x2 =>
 bif !(decide (x2 = 0)) then some (x2, a0)
 else (ids_Add k a0.2.2.2.2.2.2.2.2.2.2.2.2.2.1 a1.1).bind fun x3 =>
 bif !(decide (x3.2 = 0)) then some (x3.2, a0)
 else (row_Put k a0.2.2.2.2.2.2.2.2.2.2.2.2.1 (a1.1, a0.2.2.2.2.2.2.2.2.2.2.2.2.2.2.2.2.1, a1.2)).bind fun x4 =>
 bif !(decide (x4.2 = 0)) then some (x4.2, a0)
 else some (0, (j0_12 a0 (x4.1, x3.1, a0.2.2.2.2.2.2.2.2.2.2.2.2.2.2)))
def core_desk_mine (k : Nat) (a0 : K18q) (a1 : Int) : Option (K9q × Int) :=
 (row_Find k a0.2.2.2.2.2.2.2.2.2.2.2.2.1 a1).bind fun x0 =>
 bif decide (x0 < 0) then some ((0, 0, 0, 0, 0, 0, 0), 4)
 else bif boundOk x0 a0.2.2.2.2.2.2.2.2.2.2.2.2.1.length then (bif !(decide ((a0.2.2.2.2.2.2.2.2.2.2.2.2.1.getD x0.toNat (0, 0, 0, 0, 0, 0, 0)).2.1 = a0.2.2.2.2.2.2.2.2.2.2.2.2.2.2.2.2.1)) then some ((0, 0, 0, 0, 0, 0, 0), 4)
  else bif boundOk x0 a0.2.2.2.2.2.2.2.2.2.2.2.2.1.length then some ((a0.2.2.2.2.2.2.2.2.2.2.2.2.1.getD x0.toNat (0, 0, 0, 0, 0, 0, 0)), 0)
  else none)
 else none
def slices_Delete_Pay (k : Nat) (a0 : List K9q) (a1 a2 : Int) : Option (List K9q) :=
 bif ((((decide (0 ≤ a1)) && (decide (a1 ≤ a2))) && (decide (a2 ≤ (a0.length : Int)))) && (decide (((a2.toNat : Nat) : Int) ≤ (a0.length : Int)))) && (decide ((a0.length : Int) ≤ (a0.length : Int))) then (bif decide (a1 = a2) then some a0
  else bif (decide (0 ≤ a1)) && (decide (a1 ≤ (a0.length : Int))) then (bif (decide (0 ≤ a2)) && (decide (a2 ≤ (a0.length : Int))) then (bif Nat.ble (a1.toNat - 0) (0 + a2.toNat) then (let y0 : List K9q := (((List.take (a1.toNat - 0) a0) ++ (slc a0 (0 + a2.toNat) (a0.length - a2.toNat))) ++ (List.drop ((a1.toNat - 0) + (a0.length - a2.toNat)) a0))
     bif ((decide (0 ≤ ((slc y0 0 ((a1.toNat - 0) + (a0.length - a2.toNat))).length : Int))) && (decide (((slc y0 0 ((a1.toNat - 0) + (a0.length - a2.toNat))).length : Int) ≤ (a0.length : Int)))) && (decide ((a0.length : Int) ≤ (((y0.length - 0) : Nat) : Int))) then (let y1 : List K9q := (((List.take (0 + (slc y0 0 ((a1.toNat - 0) + (a0.length - a2.toNat))).length) y0) ++ (List.replicate (a0.length - (slc y0 0 ((a1.toNat - 0) + (a0.length - a2.toNat))).length) ((0, 0, 0, 0, 0, 0, 0) : Int × Int × Int × Int × Int × Int × Int))) ++ (List.drop ((0 + (slc y0 0 ((a1.toNat - 0) + (a0.length - a2.toNat))).length) + (a0.length - (slc y0 0 ((a1.toNat - 0) + (a0.length - a2.toNat))).length)) y0))
      some (List.take ((a1.toNat - 0) + (a0.length - a2.toNat)) y1))
     else none)
    else none)
   else none)
  else none)
 else none
def row_Drop (k : Nat) (a0 : List K9q) (a1 : Int) : Option ((List K9q) × Int × Int × Int × Int × Int × Int × Int × Int) :=
 (row_Find k a0 a1).bind fun x0 =>
 bif decide (x0 < 0) then some (a0, 0, 0, 0, 0, 0, 0, 0, 4)
 else (slices_Clone_Pay k a0).bind fun x1 =>
 (slices_Delete_Pay k x1 x0 (w64 (x0 + 1))).bind fun x2 =>
 bif boundOk x0 a0.length then some (x2, (f0_7 (a0.getD x0.toNat (0, 0, 0, 0, 0, 0, 0)) 0))
 else none
def core_desk_tells_v3 (k : Nat) (a0 : K18q) (a1 : Int) (a2 : List Int) : Option K18q :=
 bif roomB (a0.2.2.2.2.2.2.2.2.2.2.2.2.2.2.2.2.2.length + 1) 64 then (let y0 : List K8q := (a0.2.2.2.2.2.2.2.2.2.2.2.2.2.2.2.2.2 ++ [(a0.2.2.2.2.2.2.2.2.2.2.2.2.2.2.2.2.1, a1, (bif (Nat.blt 0 a2.length) then (a2.getD 0 0) else 0), (bif (Nat.blt 1 a2.length) then (a2.getD 1 0) else 0), (bif (Nat.blt 2 a2.length) then (a2.getD 2 0) else 0), (bif (Nat.blt 3 a2.length) then (a2.getD 3 0) else 0), (bif (Nat.blt 4 a2.length) then (a2.getD 4 0) else 0), (bif (Nat.blt 5 a2.length) then (a2.getD 5 0) else 0))])
  some (j0_17 a0 y0))
 else none
def row_Class (k : Nat) (a0 : List K9q) (a1 a2 : Int) : Option ((List K9q) × Int) :=
 (row_Drop k a0 a1).bind fun x0 =>
 bif !(decide (x0.2.2.2.2.2.2.2.2 = 0)) then some (a0, x0.2.2.2.2.2.2.2.2)
 else (row_Put k x0.1 (j1_4 x0 (a2, x0.2.2.2.2.2.2.1, x0.2.2.2.2.2.2.2.1))).bind fun x1 =>
 some (x1.1, x1.2)
def row_Drop_own (k : Nat) (a0 : List K9q) (a1 : Int) : Option ((List K9q) × Int × Int × Int × Int × Int × Int × Int × Int) :=
 (row_Find k a0 a1).bind fun x0 =>
 bif decide (x0 < 0) then none
 else (slices_Clone_Pay k a0).bind fun x1 =>
 (slices_Delete_Pay k x1 x0 (w64 (x0 + 1))).bind fun x2 =>
 bif boundOk x0 a0.length then some (x2, (f0_7 (a0.getD x0.toNat (0, 0, 0, 0, 0, 0, 0)) 0))
 else none
abbrev row_Front_L0X : Type := Int × (List K9q) × K9q
abbrev row_Front_L0T : Type := Int → List K9q → K9q → Option row_Front_L0X
def row_Front_L0b (k : Nat) (rec : row_Front_L0T) (s9 : Int) (r0 : List K9q) (b1 : K9q) : Option row_Front_L0X :=
 bif decide (s9 < (r0.length : Int)) then (bif boundOk s9 r0.length then ((row_order k (r0.getD s9.toNat (0, 0, 0, 0, 0, 0, 0)).1 (r0.getD s9.toNat (0, 0, 0, 0, 0, 0, 0)).2.1 (r0.getD s9.toNat (0, 0, 0, 0, 0, 0, 0)).2.2.1 (r0.getD s9.toNat (0, 0, 0, 0, 0, 0, 0)).2.2.2.1 (r0.getD s9.toNat (0, 0, 0, 0, 0, 0, 0)).2.2.2.2.1 (r0.getD s9.toNat (0, 0, 0, 0, 0, 0, 0)).2.2.2.2.2.1 (r0.getD s9.toNat (0, 0, 0, 0, 0, 0, 0)).2.2.2.2.2.2 b1.1 b1.2.1 b1.2.2.1 b1.2.2.2.1 b1.2.2.2.2.1 b1.2.2.2.2.2.1 b1.2.2.2.2.2.2).bind fun x1 =>
   bif decide (x1 < 0) then (rec (w64 (s9 + 1)) r0 b1)
   else some (s9, r0, b1))
  else none)
 else some (s9, r0, b1)
def row_Front_L0 (k : Nat) : Nat → row_Front_L0T := rounds (fun _ _ _ => none) (row_Front_L0b k)
def row_Front (k : Nat) (a0 : List K9q) (a1 : Int) : Option ((List K9q) × Int) :=
 (row_Drop_own k a0 a1).bind fun x0 =>
 bif !(decide (x0.2.2.2.2.2.2.2.2 = 0)) then some (a0, x0.2.2.2.2.2.2.2.2)
 else (row_Front_L0 k k 0 x0.1 (g1_7 x0)).bind fun z =>
 (slices_Insert_Pay k z.2.1 z.1 [z.2.2]).bind fun x2 =>
 some (x2, 0)
def row_Back (k : Nat) (a0 : List K9q) (a1 : Int) : Option ((List K9q) × Int) :=
 (row_Drop k a0 a1).bind fun x0 =>
 bif !(decide (x0.2.2.2.2.2.2.2.2 = 0)) then some (a0, x0.2.2.2.2.2.2.2.2)
 else (row_Put k x0.1 (g1_7 x0)).bind fun x1 =>
 some (x1.1, x1.2)
def core_desk_waits (k : Nat) (a0 : K18q) (a1 : K9q) : Option (Int × K18q) :=
 (core_desk_mine k a0 a1.2.1).bind fun x0 =>
 bif !(decide (x0.2 = 0)) then some (x0.2, a0)
 else bif decide (a1.1 = 2) then ((row_Drop k a0.2.2.2.2.2.2.2.2.2.2.2.2.1 a1.2.1).bind fun x1 =>
  (core_desk_tells_v3 k (j0_12 a0 (x1.1, a0.2.2.2.2.2.2.2.2.2.2.2.2.2)) 20 [a1.2.1]).bind fun x2 =>
  some (x1.2.2.2.2.2.2.2.2, x2))
 else bif decide (a1.1 = 4) then ((core_in k a1.2.2.1 1 3).bind fun x3 =>
  bif !x3 then some (1, a0)
  else (day_May k (g0_5 a0) a0.2.2.2.2.2.1 a1.2.2.1).bind fun x4 =>
  bif !(decide (x4 = 0)) then some (x4, a0)
  else (row_Class k a0.2.2.2.2.2.2.2.2.2.2.2.2.1 a1.2.1 a1.2.2.1).bind fun x5 =>
  some (x5.2, (j0_12 a0 (x5.1, a0.2.2.2.2.2.2.2.2.2.2.2.2.2))))
 else bif decide (a1.2.2.1 = 0) then ((row_Front k a0.2.2.2.2.2.2.2.2.2.2.2.2.1 a1.2.1).bind fun x6 =>
  some (x6.2, (j0_12 a0 (x6.1, a0.2.2.2.2.2.2.2.2.2.2.2.2.2))))
 else bif decide (a1.2.2.1 = 1) then ((row_Back k a0.2.2.2.2.2.2.2.2.2.2.2.2.1 a1.2.1).bind fun x7 =>
  some (x7.2, (j0_12 a0 (x7.1, a0.2.2.2.2.2.2.2.2.2.2.2.2.2))))
 else some (1, a0)
def slices_Clone_Acct (k : Nat) (a0 : List K10q) : Option (List K10q) :=
 bif roomB (0 + a0.length) 24 then some a0
 else none
def slices_Clone_Rowint64 (k : Nat) (a0 : List (List Int)) : Option Nat :=
 bif roomB (0 + a0.length) 24 then some a0.length
 else none
abbrev lim_copied_L0T : Type := List (List Int) → Int → Int → List (List Int) → Nat → Option ((List (List Int)) × Nat)
def lim_copied_L0b (k : Nat) (rec : lim_copied_L0T) (s8 : List (List Int)) (s9 s10 : Int) (m0 : List (List Int)) (n0 : Nat) : Option ((List (List Int)) × Nat) :=
 bif decide (s10 < s9) then (bif boundOk s10 s8.length then ((slices_Clone_int64 k (s8.getD s10.toNat [])).bind fun x1 =>
   bif boundOk s10 n0 then (bif Nat.beq s10.toNat m0.length then (rec s8 s9 (w64 (s10 + 1)) (m0 ++ [x1]) n0)
    else none)
   else none)
  else none)
 else some (m0, n0)
def lim_copied_L0 (k : Nat) : Nat → lim_copied_L0T
 | 0, _, _, _, _, _ => none
 | n + 1, s8, s9, s10, m0, n0 => lim_copied_L0b k (lim_copied_L0 k n) s8 s9 s10 m0 n0
def lim_copied (k : Nat) (a0 : List (List Int)) : Option (List (List Int)) :=
 (slices_Clone_Rowint64 k a0).bind fun x0 =>
 (lim_copied_L0 k k a0 (a0.length : Int) 0 [] x0).bind fun z =>
 pmatEnd z.1 z.2
def lim_Copy (k : Nat) (a0Accts : List K10q) (a0Bil : List (List Int)) (a0Mul : List Int) (a0Pos : List (List Int)) : Option K13q :=
 (slices_Clone_Acct k a0Accts).bind fun x0 =>
 (lim_copied k a0Bil).bind fun x1 =>
 (slices_Clone_int64 k a0Mul).bind fun x2 =>
 (lim_copied k a0Pos).bind fun x3 =>
 some (x0, x1, x2, x3)
def core_desk_isOther (k : Nat) (a0 : K18q) (a1 : Int) : Option Bool :=
 (core_in k a1 0 (w64 (a0.1 - 1))).bind fun x0 =>
 bif x0 then some (!(decide (a1 = a0.2.2.2.2.2.2.2.2.2.2.2.2.2.2.2.2.1)))
 else some false
def core_desk_limits (k : Nat) (a0 : K18q) (a1 : K9q) : Option (Int × K18q) :=
 (lim_Copy k a0.2.2.2.2.2.2.1 a0.2.2.2.2.2.2.2.1 a0.2.2.2.2.2.2.2.2.1 a0.2.2.2.2.2.2.2.2.2.1).bind fun x0 =>
 bif decide (a1.1 = 5) then ((core_desk_isOther k a0 a1.2.1).bind fun x1 =>
  bif !x1 then some (1, a0)
  else (core_in k a1.2.2.1 (-1) 1152921504606846976).bind fun x2 =>
  bif !x2 then some (1, a0)
  else bif boundOk a0.2.2.2.2.2.2.2.2.2.2.2.2.2.2.2.2.1 x0.2.1.length then (bif boundOk a1.2.1 (x0.2.1.getD a0.2.2.2.2.2.2.2.2.2.2.2.2.2.2.2.2.1.toNat []).length then (let y0 : List (List Int) := (x0.2.1.set a0.2.2.2.2.2.2.2.2.2.2.2.2.2.2.2.2.1.toNat ((x0.2.1.getD a0.2.2.2.2.2.2.2.2.2.2.2.2.2.2.2.2.1.toNat []).set a1.2.1.toNat a1.2.2.1))
    some (0, (j0_6 a0 (x0.1, y0, x0.2.2.1, x0.2.2.2, a0.2.2.2.2.2.2.2.2.2.2))))
   else none)
  else none)
 else bif decide (a1.1 = 6) then ((core_in k a1.2.1 (-1) 1152921504606846976).bind fun x3 =>
  bif !x3 then some (1, a0)
  else bif boundOk a0.2.2.2.2.2.2.2.2.2.2.2.2.2.2.2.2.1 x0.2.2.1.length then (let y1 : List Int := (x0.2.2.1.set a0.2.2.2.2.2.2.2.2.2.2.2.2.2.2.2.2.1.toNat a1.2.1)
   some (0, (j0_6 a0 (x0.1, x0.2.1, y1, x0.2.2.2, a0.2.2.2.2.2.2.2.2.2.2))))
  else none)
 else (core_in k a1.2.1 0 1152921504606846976).bind fun x4 =>
 bif !x4 then some (1, a0)
 else bif boundOk a0.2.2.2.2.2.2.2.2.2.2.2.2.2.2.2.2.1 x0.1.length then (let y2 : List K10q := (x0.1.set a0.2.2.2.2.2.2.2.2.2.2.2.2.2.2.2.2.1.toNat ((x0.1.getD a0.2.2.2.2.2.2.2.2.2.2.2.2.2.2.2.2.1.toNat (0, 0, 0)).1, (x0.1.getD a0.2.2.2.2.2.2.2.2.2.2.2.2.2.2.2.2.1.toNat (0, 0, 0)).2.1, a1.2.1))
  some (0, (j0_6 a0 (y2, x0.2.1, x0.2.2.1, x0.2.2.2, a0.2.2.2.2.2.2.2.2.2.2))))
 else none
def core_desk_isAsset (k : Nat) (a0 : K18q) (a1 : Int) : Option Bool :=
 (core_in k a1 0 (w64 ((a0.2.1.length : Int) - 1))).bind fun x0 =>
 some x0
def slices_Clone_Rowint64_v2 (k : Nat) (a0 : List (List Int)) : Option (List (List Int)) :=
 bif roomB (0 + a0.length) 24 then some a0
 else none
def pool_Set (k : Nat) (a0 : List Int) (a1 a2 : Int) : Option (List Int) :=
 (slices_Clone_int64 k a0).bind fun x0 =>
 bif decide (a1 ≥ 0) then (bif decide (a1 < (x0.length : Int)) then (bif boundOk a1 x0.length then some (x0.set a1.toNat a2)
   else none)
  else some x0)
 else some x0
def cash_isCut (k : Nat) (a0 : Int) : Option Bool :=
 bif decide (a0 ≥ 0) then some (decide (a0 ≤ 10000))
 else some false
def math_bits_Mul64 (k : Nat) (a0 a1 : Int) : Option K11q :=
 some ((IntKind.wrap .u64 ((IntKind.wrap .u64 ((IntKind.wrap .u64 ((shr .u64 a0 32) * (shr .u64 a1 32))) + (shr .u64 (IntKind.wrap .u64 ((IntKind.wrap .u64 ((shr .u64 a0 32) * (band .u64 a1 4294967295))) + (shr .u64 (IntKind.wrap .u64 ((band .u64 a0 4294967295) * (band .u64 a1 4294967295))) 32))) 32))) + (shr .u64 (IntKind.wrap .u64 ((band .u64 (IntKind.wrap .u64 ((IntKind.wrap .u64 ((shr .u64 a0 32) * (band .u64 a1 4294967295))) + (shr .u64 (IntKind.wrap .u64 ((band .u64 a0 4294967295) * (band .u64 a1 4294967295))) 32))) 4294967295) + (IntKind.wrap .u64 ((band .u64 a0 4294967295) * (shr .u64 a1 32))))) 32))), (IntKind.wrap .u64 (a0 * a1)))
def math_bits_Len64 (k : Nat) (a0 : Int) : Option Int :=
 bif decide (a0 ≥ 4294967296) then (bif decide ((shr .u64 a0 32) ≥ 65536) then (bif decide ((shr .u64 (shr .u64 a0 32) 16) ≥ 256) then none
   else none)
  else bif decide ((shr .u64 a0 32) ≥ 256) then none
  else none)
 else bif decide (a0 ≥ 65536) then (bif decide ((shr .u64 a0 16) ≥ 256) then none
  else none)
 else bif decide (a0 ≥ 256) then none
 else none
def math_bits_LeadingZeros64 (k : Nat) (a0 : Int) : Option Int :=
 (math_bits_Len64 k a0).bind fun x0 =>
 some (w64 (64 - x0))
abbrev math_bits_Div64_L0X : Type := Int × Int × Int × Int × Int × Int × Int × Int
abbrev math_bits_Div64_L0T : Type := Int → Int → Int → Int → Int → Int → Int → Int → Int → Option math_bits_Div64_L0X
def math_bits_Div64_L0b (k : Nat) (rec : math_bits_Div64_L0T) (s2 s8 s9 s10 s11 s13 s14 s15 s16 : Int) : Option math_bits_Div64_L0X :=
 bif decide (s15 ≥ 4294967296) then (bif decide ((IntKind.wrap .u64 (s16 + s9)) ≥ 4294967296) then some (s2, s8, s9, s10, s11, s13, s14, (IntKind.wrap .u64 (s15 - 1)))
  else rec s2 s8 s9 s10 s11 s13 s14 (IntKind.wrap .u64 (s15 - 1)) (IntKind.wrap .u64 (s16 + s9)))
 else bif decide ((IntKind.wrap .u64 (s15 * s10)) > (IntKind.wrap .u64 ((IntKind.wrap .u64 (4294967296 * s16)) + s13))) then (bif decide ((IntKind.wrap .u64 (s16 + s9)) ≥ 4294967296) then some (s2, s8, s9, s10, s11, s13, s14, (IntKind.wrap .u64 (s15 - 1)))
  else rec s2 s8 s9 s10 s11 s13 s14 (IntKind.wrap .u64 (s15 - 1)) (IntKind.wrap .u64 (s16 + s9)))
 else some (s2, s8, s9, s10, s11, s13, s14, s15)
def math_bits_Div64_L0 (k : Nat) : Nat → math_bits_Div64_L0T := rounds (fun _ _ _ _ _ _ _ _ _ => none) (math_bits_Div64_L0b k)
abbrev math_bits_Div64_L1X : Type := Int × Int × Int × Int × Int × Int
abbrev math_bits_Div64_L1T : Type := Int → Int → Int → Int → Int → Int → Int → Int → Int → Option math_bits_Div64_L1X
def math_bits_Div64_L1b (k : Nat) (rec : math_bits_Div64_L1T) (s2 s8 s9 s10 s14 s15 s16 s17 s18 : Int) : Option math_bits_Div64_L1X :=
 bif decide (s18 ≥ 4294967296) then (bif decide ((IntKind.wrap .u64 (s16 + s9)) ≥ 4294967296) then some (s2, s8, s14, s15, s17, (IntKind.wrap .u64 (s18 - 1)))
  else rec s2 s8 s9 s10 s14 s15 (IntKind.wrap .u64 (s16 + s9)) s17 (IntKind.wrap .u64 (s18 - 1)))
 else bif decide ((IntKind.wrap .u64 (s18 * s10)) > (IntKind.wrap .u64 ((IntKind.wrap .u64 (4294967296 * s16)) + s14))) then (bif decide ((IntKind.wrap .u64 (s16 + s9)) ≥ 4294967296) then some (s2, s8, s14, s15, s17, (IntKind.wrap .u64 (s18 - 1)))
  else rec s2 s8 s9 s10 s14 s15 (IntKind.wrap .u64 (s16 + s9)) s17 (IntKind.wrap .u64 (s18 - 1)))
 else some (s2, s8, s14, s15, s17, s18)
def math_bits_Div64_L1 (k : Nat) : Nat → math_bits_Div64_L1T := rounds (fun _ _ _ _ _ _ _ _ _ => none) (math_bits_Div64_L1b k)
def math_bits_Div64 (k : Nat) (a0 a1 a2 : Int) : Option K11q :=
 bif decide (a2 = 0) then none
 else bif decide (a2 ≤ a0) then none
 else bif decide (a0 = 0) then (bif !(decide (a2 = 0)) then (bif !(decide (a2 = 0)) then some ((IntKind.wrap .u64 (Int.tdiv a1 a2)), (Int.tmod a1 a2))
   else none)
  else none)
 else (math_bits_LeadingZeros64 k a2).bind fun x0 =>
 bif !(decide ((IntKind.wrap .u64 (x0)) < 0)) then (bif !(decide ((IntKind.wrap .u64 (x0)) < 0)) then (bif !(decide ((IntKind.wrap .u64 (64 - (IntKind.wrap .u64 (x0)))) < 0)) then (bif !(decide ((IntKind.wrap .u64 (x0)) < 0)) then (bif !(decide ((shr .u64 (shl .u64 a2 (IntKind.wrap .u64 (x0))) 32) = 0)) then ((math_bits_Div64_L0 k k (shl .u64 a2 (IntKind.wrap .u64 (x0))) (IntKind.wrap .u64 (x0)) (shr .u64 (shl .u64 a2 (IntKind.wrap .u64 (x0))) 32) (band .u64 (shl .u64 a2 (IntKind.wrap .u64 (x0))) 4294967295) (bor .u64 (shl .u64 a0 (IntKind.wrap .u64 (x0))) (shr .u64 a1 (IntKind.wrap .u64 (64 - (IntKind.wrap .u64 (x0)))))) (shr .u64 (shl .u64 a1 (IntKind.wrap .u64 (x0))) 32) (band .u64 (shl .u64 a1 (IntKind.wrap .u64 (x0))) 4294967295) (IntKind.wrap .u64 (Int.tdiv (bor .u64 (shl .u64 a0 (IntKind.wrap .u64 (x0))) (shr .u64 a1 (IntKind.wrap .u64 (64 - (IntKind.wrap .u64 (x0)))))) (shr .u64 (shl .u64 a2 (IntKind.wrap .u64 (x0))) 32))) (IntKind.wrap .u64 ((bor .u64 (shl .u64 a0 (IntKind.wrap .u64 (x0))) (shr .u64 a1 (IntKind.wrap .u64 (64 - (IntKind.wrap .u64 (x0)))))) - (IntKind.wrap .u64 ((IntKind.wrap .u64 (Int.tdiv (bor .u64 (shl .u64 a0 (IntKind.wrap .u64 (x0))) (shr .u64 a1 (IntKind.wrap .u64 (64 - (IntKind.wrap .u64 (x0)))))) (shr .u64 (shl .u64 a2 (IntKind.wrap .u64 (x0))) 32))) * (shr .u64 (shl .u64 a2 (IntKind.wrap .u64 (x0))) 32)))))).bind fun z =>
      bif !(decide (z.2.2.1 = 0)) then ((math_bits_Div64_L1 k k z.1 z.2.1 z.2.2.1 z.2.2.2.1 z.2.2.2.2.2.2.1 z.2.2.2.2.2.2.2 (IntKind.wrap .u64 ((IntKind.wrap .u64 ((IntKind.wrap .u64 ((IntKind.wrap .u64 (z.2.2.2.2.1 * 4294967296)) + z.2.2.2.2.2.1)) - (IntKind.wrap .u64 (z.2.2.2.2.2.2.2 * z.1)))) - (IntKind.wrap .u64 ((IntKind.wrap .u64 (Int.tdiv (IntKind.wrap .u64 ((IntKind.wrap .u64 ((IntKind.wrap .u64 (z.2.2.2.2.1 * 4294967296)) + z.2.2.2.2.2.1)) - (IntKind.wrap .u64 (z.2.2.2.2.2.2.2 * z.1)))) z.2.2.1)) * z.2.2.1)))) (IntKind.wrap .u64 ((IntKind.wrap .u64 ((IntKind.wrap .u64 (z.2.2.2.2.1 * 4294967296)) + z.2.2.2.2.2.1)) - (IntKind.wrap .u64 (z.2.2.2.2.2.2.2 * z.1)))) (IntKind.wrap .u64 (Int.tdiv (IntKind.wrap .u64 ((IntKind.wrap .u64 ((IntKind.wrap .u64 (z.2.2.2.2.1 * 4294967296)) + z.2.2.2.2.2.1)) - (IntKind.wrap .u64 (z.2.2.2.2.2.2.2 * z.1)))) z.2.2.1))).bind fun z1 =>
       bif !(decide (z1.2.1 < 0)) then some ((IntKind.wrap .u64 ((IntKind.wrap .u64 (z1.2.2.2.1 * 4294967296)) + z1.2.2.2.2.2)), (shr .u64 (IntKind.wrap .u64 ((IntKind.wrap .u64 ((IntKind.wrap .u64 (z1.2.2.2.2.1 * 4294967296)) + z1.2.2.1)) - (IntKind.wrap .u64 (z1.2.2.2.2.2 * z1.1)))) z1.2.1))
       else none)
      else none)
     else none)
    else none)
   else none)
  else none)
 else none
def cash_Worth (k : Nat) (a0 a1 a2 : Int) : Option (Int × Bool) :=
 bif decide (a0 < 0) then some (0, false)
 else bif decide (a1 < 0) then some (0, false)
 else (cash_isCut k a2).bind fun x0 =>
 bif !x0 then some (0, false)
 else (math_bits_Mul64 k (IntKind.wrap .u64 (a0)) (IntKind.wrap .u64 (a1))).bind fun x1 =>
 (math_bits_Div64 k (Int.tmod x1.1 10000) x1.2 10000).bind fun x2 =>
 (math_bits_Mul64 k x2.1 (IntKind.wrap .u64 ((w64 (10000 - a2))))).bind fun x3 =>
 (add64 k x3.2 (IntKind.wrap .u64 (Int.tdiv (IntKind.wrap .u64 (x2.2 * (IntKind.wrap .u64 ((w64 (10000 - a2)))))) 10000)) 0).bind fun x4 =>
 bif decide ((IntKind.wrap .u64 (Int.tdiv x1.1 10000)) > 0) then (bif decide ((IntKind.wrap .u64 ((w64 (10000 - a2)))) > 0) then some (0, false)
  else bif decide ((IntKind.wrap .u64 (x3.1 + x4.2)) > 0) then some (0, false)
  else bif decide (x4.1 > 9223372036854775807) then some (0, false)
  else some ((w64 (x4.1)), true))
 else bif decide ((IntKind.wrap .u64 (x3.1 + x4.2)) > 0) then some (0, false)
 else bif decide (x4.1 > 9223372036854775807) then some (0, false)
 else some ((w64 (x4.1)), true)
abbrev cash_Sum_L0T : Type := Int → Int → List Int → Int → Int → Option K11q
def cash_Sum_L0b (k : Nat) (rec : cash_Sum_L0T) (s4 s5 : Int) (s9 : List Int) (s10 s11 : Int) : Option K11q :=
 bif decide (s11 < s10) then (bif boundOk s11 s9.length then ((add64 k s5 (IntKind.wrap .u64 ((s9.getD s11.toNat 0))) 0).bind fun x0 =>
   rec (w64 (s4 + (w64 ((shr .i64 (s9.getD s11.toNat 0) 63) + (w64 (x0.2)))))) x0.1 s9 s10 (w64 (s11 + 1)))
  else none)
 else some (s4, s5)
def cash_Sum_L0 (k : Nat) : Nat → cash_Sum_L0T
 | 0, _, _, _, _, _ => none
 | n + 1, s4, s5, s9, s10, s11 => cash_Sum_L0b k (cash_Sum_L0 k n) s4 s5 s9 s10 s11
def cash_Sum (k : Nat) (a0 : List Int) : Option (Int × Bool) :=
 (cash_Sum_L0 k k 0 0 a0 (a0.length : Int) 0).bind fun z =>
 bif !(decide (z.1 = (shr .i64 (w64 (z.2)) 63))) then some (0, false)
 else some ((w64 (z.2)), true)
abbrev pool_Value_L0T : Type := List Int → List Int → List K11q → Int → Int → List Int → Option ((List Int) ⊕ (Int × Bool))
def pool_Value_L0b (k : Nat) (rec : pool_Value_L0T) (s1 s2 : List Int) (s25 : List K11q) (s26 s27 : Int) (r0 : List Int) : Option ((List Int) ⊕ (Int × Bool)) :=
 bif decide (s27 < s26) then (bif boundOk s27 s25.length then (bif boundOk s27 s1.length then (bif boundOk s27 s2.length then ((cash_Worth k (s1.getD s27.toNat 0) (s2.getD s27.toNat 0) (s25.getD s27.toNat (0, 0)).2).bind fun x0 =>
     bif !x0.2 then some (.inr (0, false))
     else bif roomB (r0.length + 1) 8 then (rec s1 s2 s25 s26 (w64 (s27 + 1)) (r0 ++ [x0.1]))
     else none)
    else none)
   else none)
  else none)
 else some (.inl r0)
def pool_Value_L0 (k : Nat) : Nat → pool_Value_L0T := rounds (fun _ _ _ _ _ _ => none) (pool_Value_L0b k)
def pool_Value (k : Nat) (a0 : List K11q) (a1 a2 : List Int) : Option (Int × Bool) :=
 bif !(decide ((a1.length : Int) = (a0.length : Int))) then some (0, false)
 else bif !(decide ((a2.length : Int) = (a0.length : Int))) then some (0, false)
 else (pool_Value_L0 k k a1 a2 a0 (a0.length : Int) 0 []).bind fun z =>
 match z with
 | .inl z1 => (cash_Sum k z1).bind fun x1 =>
  some (x1.1, x1.2)
 | .inr z2 => some (z2.1, z2.2)
def core_desk_holds (k : Nat) (a0 : K18q) (a1 a2 : Int) : Option (Int × K18q) :=
 (core_desk_isAsset k a0 a1).bind fun x0 =>
 bif !x0 then some (1, a0)
 else (core_in k a2 0 1099511627776).bind fun x1 =>
 bif !x1 then some (1, a0)
 else (slices_Clone_Rowint64_v2 k a0.2.2.2.2.2.2.2.2.2.2.2.1).bind fun x2 =>
 bif boundOk a0.2.2.2.2.2.2.2.2.2.2.2.2.2.2.2.2.1 x2.length then ((pool_Set k (x2.getD a0.2.2.2.2.2.2.2.2.2.2.2.2.2.2.2.2.1.toNat []) a1 a2).bind fun x3 =>
  bif boundOk a0.2.2.2.2.2.2.2.2.2.2.2.2.2.2.2.2.1 x2.length then (let y0 : List (List Int) := (x2.set a0.2.2.2.2.2.2.2.2.2.2.2.2.2.2.2.2.1.toNat x3)
   bif boundOk a0.2.2.2.2.2.2.2.2.2.2.2.2.2.2.2.2.1 y0.length then ((pool_Value k a0.2.1 a0.2.2.2.2.2.2.2.2.2.2.1 (y0.getD a0.2.2.2.2.2.2.2.2.2.2.2.2.2.2.2.2.1.toNat [])).bind fun x4 =>
    bif boundOk a0.2.2.2.2.2.2.2.2.2.2.2.2.2.2.2.2.1 a0.2.2.2.2.2.2.1.length then (bif !x4.2 then some (8, a0)
     else bif decide (x4.1 > 1152921504606846976) then some (8, a0)
     else bif decide (x4.1 < (a0.2.2.2.2.2.2.1.getD a0.2.2.2.2.2.2.2.2.2.2.2.2.2.2.2.2.1.toNat (0, 0, 0)).2.1) then (bif decide ((w64 ((a0.2.2.2.2.2.2.1.getD a0.2.2.2.2.2.2.2.2.2.2.2.2.2.2.2.2.1.toNat (0, 0, 0)).1 + x4.1)) < 0) then some (9, a0)
      else (lim_Copy k a0.2.2.2.2.2.2.1 a0.2.2.2.2.2.2.2.1 a0.2.2.2.2.2.2.2.2.1 a0.2.2.2.2.2.2.2.2.2.1).bind fun x5 =>
      bif boundOk a0.2.2.2.2.2.2.2.2.2.2.2.2.2.2.2.2.1 x5.1.length then (let y1 : List K10q := (x5.1.set a0.2.2.2.2.2.2.2.2.2.2.2.2.2.2.2.2.1.toNat ((x5.1.getD a0.2.2.2.2.2.2.2.2.2.2.2.2.2.2.2.2.1.toNat (0, 0, 0)).1, x4.1, (x5.1.getD a0.2.2.2.2.2.2.2.2.2.2.2.2.2.2.2.2.1.toNat (0, 0, 0)).2.2))
       some (0, (j0_6 a0 (y1, x5.2.1, x5.2.2.1, x5.2.2.2, a0.2.2.2.2.2.2.2.2.2.2.1, y0, a0.2.2.2.2.2.2.2.2.2.2.2.2))))
      else none)
     else (lim_Copy k a0.2.2.2.2.2.2.1 a0.2.2.2.2.2.2.2.1 a0.2.2.2.2.2.2.2.2.1 a0.2.2.2.2.2.2.2.2.2.1).bind fun x6 =>
     bif boundOk a0.2.2.2.2.2.2.2.2.2.2.2.2.2.2.2.2.1 x6.1.length then (let y2 : List K10q := (x6.1.set a0.2.2.2.2.2.2.2.2.2.2.2.2.2.2.2.2.1.toNat ((x6.1.getD a0.2.2.2.2.2.2.2.2.2.2.2.2.2.2.2.2.1.toNat (0, 0, 0)).1, x4.1, (x6.1.getD a0.2.2.2.2.2.2.2.2.2.2.2.2.2.2.2.2.1.toNat (0, 0, 0)).2.2))
      some (0, (j0_6 a0 (y2, x6.2.1, x6.2.2.1, x6.2.2.2, a0.2.2.2.2.2.2.2.2.2.2.1, y0, a0.2.2.2.2.2.2.2.2.2.2.2.2))))
     else none)
    else none)
   else none)
  else none)
 else none
def cash_Add (k : Nat) (a0 a1 : Int) : Option (Int × Bool) :=
 bif decide (a1 > 0) then (bif decide (a0 > (w64 (9223372036854775807 - a1))) then some (0, false)
  else bif decide (a1 < 0) then (bif decide (a0 < (w64 ((-9223372036854775808) - a1))) then some (0, false)
   else some ((w64 (a0 + a1)), true))
  else some ((w64 (a0 + a1)), true))
 else bif decide (a1 < 0) then (bif decide (a0 < (w64 ((-9223372036854775808) - a1))) then some (0, false)
  else some ((w64 (a0 + a1)), true))
 else some ((w64 (a0 + a1)), true)
def acct_Is (k : Nat) (a0Balance a0Credit a0Reserve : Int) : Option Bool :=
 bif decide (a0Balance > (-4611686018427387904)) then (bif decide (a0Balance < 4611686018427387904) then (bif decide (a0Credit ≥ 0) then (bif decide (a0Credit ≤ 2305843009213693952) then (bif decide (a0Reserve ≥ 0) then some (decide (a0Reserve ≤ 2305843009213693952))
     else some false)
    else some false)
   else some false)
  else some false)
 else some false
def acct_moved (k : Nat) (a0 : K10q) (a1 : Int) : Option (K10q × Int) :=
 (cash_Add k a0.1 a1).bind fun x0 =>
 bif !x0.2 then some (a0, 8)
 else (acct_Is k x0.1 a0.2.1 a0.2.2).bind fun x1 =>
 bif !x1 then some (a0, 8)
 else some ((x0.1, a0.2), 0)
def acct_In (k : Nat) (a0 : K10q) (a1 : Int) : Option (K10q × Int) :=
 (acct_moved k a0 a1).bind fun x0 =>
 some (x0.1, x0.2)
def acct_Kept (k : Nat) (a0Balance a0Credit a0Reserve a1 : Int) : Option Int :=
 some (maxI false (w64 (a0Reserve - a1)) 0)
def acct_Out (k : Nat) (a0 : K10q) (a1 a2 : Int) : Option (K10q × Int) :=
 (acct_moved k a0 (w64 (0 - a1))).bind fun x0 =>
 bif decide (x0.2 = 0) then (bif decide (a2 = 1) then ((acct_Kept k a0.1 a0.2.1 a0.2.2 a1).bind fun x1 =>
   some ((x0.1.1, x0.1.2.1, x1), x0.2))
  else bif decide (a2 = 2) then ((acct_Kept k a0.1 a0.2.1 a0.2.2 a1).bind fun x2 =>
   some ((x0.1.1, x0.1.2.1, x2), x0.2))
  else some (x0.1, x0.2))
 else some (x0.1, x0.2)
def acct_Room (k : Nat) (a0 : K10q) (a1 : Int) : Option Int :=
 bif decide (a1 = 3) then some (w64 ((w64 (a0.1 + a0.2.1)) - a0.2.2))
 else some (w64 (a0.1 + a0.2.1))
def core_desk_moves (k : Nat) (a0 : K18q) (a1 a2 a3 : Int) : Option (Int × K18q) :=
 (core_in k a2 0 (w64 (a0.1 - 1))).bind fun x0 =>
 bif !x0 then some (1, a0)
 else (core_in k a3 1 1099511627776).bind fun x1 =>
 bif !x1 then some (1, a0)
 else bif boundOk a2 a0.2.2.2.2.2.2.1.length then ((acct_In k (a0.2.2.2.2.2.2.1.getD a2.toNat (0, 0, 0)) a3).bind fun x2 =>
  bif decide (a1 = 11) then ((acct_Out k (a0.2.2.2.2.2.2.1.getD a2.toNat (0, 0, 0)) a3 3).bind fun x3 =>
   (acct_Room k (a0.2.2.2.2.2.2.1.getD a2.toNat (0, 0, 0)) 3).bind fun x4 =>
   bif decide (x4 < a3) then some (9, a0)
   else bif decide ((w64 (a0.2.2.2.2.2.2.2.2.2.2.2.2.2.2.1 - a3)) < 0) then some (9, a0)
   else bif !(decide (x3.2 = 0)) then some (x3.2, a0)
   else bif decide ((w64 (a0.2.2.2.2.2.2.2.2.2.2.2.2.2.2.1 - a3)) > 1152921504606846976) then some (8, a0)
   else (lim_Copy k a0.2.2.2.2.2.2.1 a0.2.2.2.2.2.2.2.1 a0.2.2.2.2.2.2.2.2.1 a0.2.2.2.2.2.2.2.2.2.1).bind fun x5 =>
   bif boundOk a2 x5.1.length then some (0, (j0_6 a0 ((x5.1.set a2.toNat x3.1), x5.2.1, x5.2.2.1, x5.2.2.2, (j10_4 a0 ((w64 (a0.2.2.2.2.2.2.2.2.2.2.2.2.2.2.1 - a3)), a0.2.2.2.2.2.2.2.2.2.2.2.2.2.2.2)))))
   else none)
  else bif !(decide (x2.2 = 0)) then some (x2.2, a0)
  else bif decide ((w64 (a0.2.2.2.2.2.2.2.2.2.2.2.2.2.2.1 + a3)) > 1152921504606846976) then some (8, a0)
  else (lim_Copy k a0.2.2.2.2.2.2.1 a0.2.2.2.2.2.2.2.1 a0.2.2.2.2.2.2.2.2.1 a0.2.2.2.2.2.2.2.2.2.1).bind fun x6 =>
  bif boundOk a2 x6.1.length then some (0, (j0_6 a0 ((x6.1.set a2.toNat x2.1), x6.2.1, x6.2.2.1, x6.2.2.2, (j10_4 a0 ((w64 (a0.2.2.2.2.2.2.2.2.2.2.2.2.2.2.1 + a3)), a0.2.2.2.2.2.2.2.2.2.2.2.2.2.2.2)))))
  else none)
 else none
abbrev core_desk_price_L0X : Type := (K20q × (List K8q) × (List Int) × (List K10q) × (List (List Int)) × (List Int) × (List (List Int))) ⊕ (Int × K20q × (List K8q))
abbrev core_desk_price_L0T : Type := List (List Int) → Int → Int → K20q → List K8q → List Int → List K10q → List (List Int) → List Int → List (List Int) → Option core_desk_price_L0X
def core_desk_price_L0b (k : Nat) (rec : core_desk_price_L0T) (s40 : List (List Int)) (s41 s42 : Int) (b0 : K20q) (r1 : List K8q) (r2 : List Int) (r4 : List K10q) (m5 : List (List Int)) (r6 : List Int) (m7 : List (List Int)) : Option core_desk_price_L0X :=
 bif decide (s42 < s41) then (bif boundOk s42 s40.length then ((pool_Value k b0.2.1 r2 (s40.getD s42.toNat [])).bind fun x4 =>
   bif !x4.2 then some (.inr (8, b0, r1))
   else bif decide (x4.1 > 1152921504606846976) then some (.inr (8, b0, r1))
   else bif boundOk s42 r4.length then (let y0 : List K10q := (r4.set s42.toNat ((r4.getD s42.toNat (0, 0, 0)).1, x4.1, (r4.getD s42.toNat (0, 0, 0)).2.2))
    rec s40 s41 (w64 (s42 + 1)) b0 r1 r2 y0 m5 r6 m7)
   else none)
  else none)
 else some (.inl (b0, r1, r2, r4, m5, r6, m7))
def core_desk_price_L0 (k : Nat) : Nat → core_desk_price_L0T := rounds (fun _ _ _ _ _ _ _ _ _ _ => none) (core_desk_price_L0b k)
def core_desk_price (k : Nat) (a0 : K18q) (a1 a2 : Int) : Option (Int × K18q) :=
 (core_desk_isAsset k a0 a1).bind fun x0 =>
 bif !x0 then some (1, a0)
 else (core_in k a2 0 1048576).bind fun x1 =>
 bif !x1 then some (1, a0)
 else (pool_Set k a0.2.2.2.2.2.2.2.2.2.2.1 a1 a2).bind fun x2 =>
 (lim_Copy k a0.2.2.2.2.2.2.1 a0.2.2.2.2.2.2.2.1 a0.2.2.2.2.2.2.2.2.1 a0.2.2.2.2.2.2.2.2.2.1).bind fun x3 =>
 (core_desk_price_L0 k k a0.2.2.2.2.2.2.2.2.2.2.2.1 (a0.2.2.2.2.2.2.2.2.2.2.2.1.length : Int) 0 (g0_17 a0) a0.2.2.2.2.2.2.2.2.2.2.2.2.2.2.2.2.2 x2 x3.1 x3.2.1 x3.2.2.1 x3.2.2.2).bind fun z =>
 match z with
 | .inl z1 => some (0, (j0_6 z1.1 (f3_4 z1 (z1.2.2.1, (f11_6 z1.1 z1.2.1)))))
 | .inr z2 => some (z2.1, (f0_17 z2.2.1 z2.2.2))
def core_desk_does (k : Nat) (a0 : K18q) (a1 : K9q) : Option (Int × K18q) :=
 bif decide (a1.1 = 1) then ((core_desk_pays k a0 a1.2).bind fun x0 =>
  some (x0.1, x0.2))
 else bif decide (a1.1 = 2) then ((core_desk_waits k a0 a1).bind fun x1 =>
  some (x1.1, x1.2))
 else bif decide (a1.1 = 3) then ((core_desk_waits k a0 a1).bind fun x2 =>
  some (x2.1, x2.2))
 else bif decide (a1.1 = 4) then ((core_desk_waits k a0 a1).bind fun x3 =>
  some (x3.1, x3.2))
 else bif decide (a1.1 = 5) then ((core_desk_limits k a0 a1).bind fun x4 =>
  some (x4.1, x4.2))
 else bif decide (a1.1 = 6) then ((core_desk_limits k a0 a1).bind fun x5 =>
  some (x5.1, x5.2))
 else bif decide (a1.1 = 7) then ((core_desk_limits k a0 a1).bind fun x6 =>
  some (x6.1, x6.2))
 else bif decide (a1.1 = 8) then ((core_desk_holds k a0 a1.2.1 a1.2.2.1).bind fun x7 =>
  some (x7.1, x7.2))
 else bif decide (a1.1 = 10) then ((core_desk_moves k a0 a1.1 a1.2.1 a1.2.2.1).bind fun x8 =>
  some (x8.1, x8.2))
 else bif decide (a1.1 = 11) then ((core_desk_moves k a0 a1.1 a1.2.1 a1.2.2.1).bind fun x9 =>
  some (x9.1, x9.2))
 else bif decide (a1.1 = 12) then ((core_desk_price k a0 a1.2.1 a1.2.2.1).bind fun x10 =>
  some (x10.1, x10.2))
 else some (0, a0)
def day_Closes (k : Nat) (a0Parties : Int) (a0Assets : List K11q) (a0Cutoff a0Close a0Period a1 : Int) : Option Bool :=
 some (decide (a1 = a0Close))
def hour_out (k : Nat) (a0 a1 : Int) (a2 : List Int) : Option K8q :=
 some (a0, a1, (bif (Nat.blt 0 a2.length) then (a2.getD 0 0) else 0), (bif (Nat.blt 1 a2.length) then (a2.getD 1 0) else 0), (bif (Nat.blt 2 a2.length) then (a2.getD 2 0) else 0), (bif (Nat.blt 3 a2.length) then (a2.getD 3 0) else 0), (bif (Nat.blt 4 a2.length) then (a2.getD 4 0) else 0), (bif (Nat.blt 5 a2.length) then (a2.getD 5 0) else 0))
abbrev hour_ends_L0X : Type := Int × (List K10q) × (List (List Int)) × (List Int) × (List (List Int)) × (List Int) × (List (List Int)) × (List K9q) × (List Int) × Int × Bool × Int × Int × Bool × (List K8q)
abbrev hour_ends_L0T : Type := List K9q → Int → Int → Int → List K10q → List (List Int) → List Int → List (List Int) → List Int → List (List Int) → List K9q → List Int → Int → Bool → Int → Int → Bool → List K8q → Option hour_ends_L0X
def hour_ends_L0b (k : Nat) (rec : hour_ends_L0T) (s10 : List K9q) (s11 s12 b0_0 : Int) (b0_1 : List K10q) (b0_2 : List (List Int)) (b0_3 : List Int) (b0_4 : List (List Int)) (b0_5 : List Int) (b0_6 : List (List Int)) (b0_7 : List K9q) (b0_8 : List Int) (b0_9 : Int) (b0_10 : Bool) (b1_0 b1_9 : Int) (b1_10 : Bool) (r2 : List K8q) : Option hour_ends_L0X :=
 bif decide (s12 < s11) then (bif boundOk s12 s10.length then ((hour_out k (s10.getD s12.toNat (0, 0, 0, 0, 0, 0, 0)).2.1 22 [(s10.getD s12.toNat (0, 0, 0, 0, 0, 0, 0)).1]).bind fun x0 =>
   bif roomB (r2.length + 1) 64 then (rec s10 s11 (w64 (s12 + 1)) b0_0 b0_1 b0_2 b0_3 b0_4 b0_5 b0_6 b0_7 b0_8 b0_9 b0_10 b1_0 b1_9 b1_10 (r2 ++ [x0]))
   else none)
  else none)
 else some (b0_0, b0_1, b0_2, b0_3, b0_4, b0_5, b0_6, b0_7, b0_8, b0_9, b0_10, b1_0, b1_9, b1_10, r2)
def hour_ends_L0 (k : Nat) : Nat → hour_ends_L0T
 | 0, _, _, _, _, _, _, _, _, _, _, _, _, _, _, _, _, _, _ => none
 | n + 1, s10, s11, s12, b0_0, b0_1, b0_2, b0_3, b0_4, b0_5, b0_6, b0_7, b0_8, b0_9, b0_10, b1_0, b1_9, b1_10, r2 => hour_ends_L0b k (hour_ends_L0 k n) s10 s11 s12 b0_0 b0_1 b0_2 b0_3 b0_4 b0_5 b0_6 b0_7 b0_8 b0_9 b0_10 b1_0 b1_9 b1_10 r2
abbrev hour_ends_L1X : Type := Int × (List K10q) × (List (List Int)) × (List Int) × (List (List Int)) × (List Int) × (List (List Int)) × (List K9q) × (List Int) × Int × Bool × Int × Int × Bool × (List K8q)
abbrev hour_ends_L1T : Type := List K10q → Int → Int → Int → List K10q → List (List Int) → List Int → List (List Int) → List Int → List (List Int) → List K9q → List Int → Int → Bool → Int → Int → Bool → List K8q → Option hour_ends_L1X
def hour_ends_L1b (k : Nat) (rec : hour_ends_L1T) (s28 : List K10q) (s29 s30 b0_0 : Int) (b0_1 : List K10q) (b0_2 : List (List Int)) (b0_3 : List Int) (b0_4 : List (List Int)) (b0_5 : List Int) (b0_6 : List (List Int)) (b0_7 : List K9q) (b0_8 : List Int) (b0_9 : Int) (b0_10 : Bool) (b1_0 b1_9 : Int) (b1_10 : Bool) (r2 : List K8q) : Option hour_ends_L1X :=
 bif decide (s30 < s29) then (bif boundOk s30 s28.length then ((hour_out k s30 23 [(s28.getD s30.toNat (0, 0, 0)).1]).bind fun x1 =>
   bif roomB (r2.length + 1) 64 then (rec s28 s29 (w64 (s30 + 1)) b0_0 b0_1 b0_2 b0_3 b0_4 b0_5 b0_6 b0_7 b0_8 b0_9 b0_10 b1_0 b1_9 b1_10 (r2 ++ [x1]))
   else none)
  else none)
 else some (b0_0, b0_1, b0_2, b0_3, b0_4, b0_5, b0_6, b0_7, b0_8, b0_9, b0_10, b1_0, b1_9, b1_10, r2)
def hour_ends_L1 (k : Nat) : Nat → hour_ends_L1T
 | 0, _, _, _, _, _, _, _, _, _, _, _, _, _, _, _, _, _, _ => none
 | n + 1, s28, s29, s30, b0_0, b0_1, b0_2, b0_3, b0_4, b0_5, b0_6, b0_7, b0_8, b0_9, b0_10, b1_0, b1_9, b1_10, r2 => hour_ends_L1b k (hour_ends_L1 k n) s28 s29 s30 b0_0 b0_1 b0_2 b0_3 b0_4 b0_5 b0_6 b0_7 b0_8 b0_9 b0_10 b1_0 b1_9 b1_10 r2
def hour_ends (k : Nat) (a0Tick : Int) (a0BooksAccts : List K10q) (a0BooksBil : List (List Int)) (a0BooksMul : List Int) (a0BooksPos : List (List Int)) (a0Prices : List Int) (a0Holds : List (List Int)) (a0Pays : List K9q) (a0IDs : List Int) (a0Total : Int) (a0Over : Bool) : Option K16q :=
 (hour_ends_L0 k k a0Pays (a0Pays.length : Int) 0 a0Tick a0BooksAccts a0BooksBil a0BooksMul a0BooksPos a0Prices a0Holds a0Pays a0IDs a0Total a0Over 0 0 false []).bind fun z =>
 (hour_ends_L1 k k z.2.1 (z.2.1.length : Int) 0 z.1 z.2.1 z.2.2.1 z.2.2.2.1 z.2.2.2.2.1 z.2.2.2.2.2.1 z.2.2.2.2.2.2.1 z.2.2.2.2.2.2.2.1 z.2.2.2.2.2.2.2.2.1 z.2.2.2.2.2.2.2.2.2.1 z.2.2.2.2.2.2.2.2.2.2.1 z.2.2.2.2.2.2.2.2.2.2.2.1 z.2.2.2.2.2.2.2.2.2.2.2.2.1 z.2.2.2.2.2.2.2.2.2.2.2.2.2.1 z.2.2.2.2.2.2.2.2.2.2.2.2.2.2).bind fun z1 =>
 some (j0_7 z1 ([], z1.2.2.2.2.2.2.2.2.1, z1.2.2.2.2.2.2.2.2.2.1, true, z1.2.2.2.2.2.2.2.2.2.2.2.2.2.2))
def pay_Late (k : Nat) (a0ID a0From a0To a0Amount a0Class a0Start a0Till a1 : Int) : Option Bool :=
 some (decide (a1 > a0Till))
def day_Solves (k : Nat) (a0Parties : Int) (a0Assets : List K11q) (a0Cutoff a0Close a0Period a1 : Int) : Option Bool :=
 bif decide (a1 > 0) then (bif decide (a1 < a0Close) then (bif !(decide (a0Period = 0)) then some (decide ((Int.tmod a1 a0Period) = 0))
   else none)
  else some false)
 else some false
def pay_Ready (k : Nat) (a0ID a0From a0To a0Amount a0Class a0Start a0Till a1 : Int) : Option Bool :=
 bif decide (a1 ≥ a0Start) then some (decide (a1 ≤ a0Till))
 else some false
def view_Ready_fn1 (k : Nat) (a0ID a0From a0To a0Amount a0Class a0Start a0Till a1 : Int) : Option Bool :=
 (pay_Ready k a0ID a0From a0To a0Amount a0Class a0Start a0Till a1).bind fun x0 =>
 some x0
abbrev view_all__view_Ready_fn1_L0X : Type := List K9q
abbrev view_all__view_Ready_fn1_L0T : Type := List K9q → Int → Int → Int → List K9q → Option view_all__view_Ready_fn1_L0X
def view_all__view_Ready_fn1_L0b (k : Nat) (rec : view_all__view_Ready_fn1_L0T) (s8 : List K9q) (s9 s10 b0_0 : Int) (r1 : List K9q) : Option view_all__view_Ready_fn1_L0X :=
 bif decide (s10 < s9) then (bif boundOk s10 s8.length then ((view_Ready_fn1 k (s8.getD s10.toNat (0, 0, 0, 0, 0, 0, 0)).1 (s8.getD s10.toNat (0, 0, 0, 0, 0, 0, 0)).2.1 (s8.getD s10.toNat (0, 0, 0, 0, 0, 0, 0)).2.2.1 (s8.getD s10.toNat (0, 0, 0, 0, 0, 0, 0)).2.2.2.1 (s8.getD s10.toNat (0, 0, 0, 0, 0, 0, 0)).2.2.2.2.1 (s8.getD s10.toNat (0, 0, 0, 0, 0, 0, 0)).2.2.2.2.2.1 (s8.getD s10.toNat (0, 0, 0, 0, 0, 0, 0)).2.2.2.2.2.2 b0_0).bind fun x0 =>
   bif x0 then (bif roomB (r1.length + 1) 56 then (let y0 : List K9q := (r1 ++ [(s8.getD s10.toNat (0, 0, 0, 0, 0, 0, 0))])
     rec s8 s9 (w64 (s10 + 1)) b0_0 y0)
    else none)
   else rec s8 s9 (w64 (s10 + 1)) b0_0 r1)
  else none)
 else some r1
def view_all__view_Ready_fn1_L0 (k : Nat) : Nat → view_all__view_Ready_fn1_L0T
 | 0, _, _, _, _, _ => none
 | n + 1, s8, s9, s10, b0_0, r1 => view_all__view_Ready_fn1_L0b k (view_all__view_Ready_fn1_L0 k n) s8 s9 s10 b0_0 r1
def view_all__view_Ready_fn1 (k : Nat) (a0 : List K9q) (a1_0 : Int) : Option (List K9q) :=
 (view_all__view_Ready_fn1_L0 k k a0 (a0.length : Int) 0 a1_0 []).bind fun z =>
 some z
def view_Ready (k : Nat) (a0 : List K9q) (a1 : Int) : Option (List K9q) :=
 (view_all__view_Ready_fn1 k a0 a1).bind fun x0 =>
 some x0
def view_May_fn1_fn1 (k : Nat) (a0ID a0From a0To a0Amount a0Class a0Start a0Till a1ID a1From a1To a1Amount a1Class a1Start a1Till : Int) : Option Bool :=
 bif decide (a0From = a1From) then some (!(decide (a0Class = 3)))
 else some false
abbrev slices_IndexFunc_Pay__view_May_fn1_fn1_L0T : Type := List K9q → Int → Int → Int → Int → Int → Int → Int → Int → Int → Option (Unit ⊕ Int)
def slices_IndexFunc_Pay__view_May_fn1_fn1_L0b (k : Nat) (rec : slices_IndexFunc_Pay__view_May_fn1_fn1_L0T) (s0 : List K9q) (s7 s8 b0_0 b0_1 b0_2 b0_3 b0_4 b0_5 b0_6 : Int) : Option (Unit ⊕ Int) :=
 bif decide (s8 < s7) then (bif boundOk s8 s0.length then ((view_May_fn1_fn1 k (s0.getD s8.toNat (0, 0, 0, 0, 0, 0, 0)).1 (s0.getD s8.toNat (0, 0, 0, 0, 0, 0, 0)).2.1 (s0.getD s8.toNat (0, 0, 0, 0, 0, 0, 0)).2.2.1 (s0.getD s8.toNat (0, 0, 0, 0, 0, 0, 0)).2.2.2.1 (s0.getD s8.toNat (0, 0, 0, 0, 0, 0, 0)).2.2.2.2.1 (s0.getD s8.toNat (0, 0, 0, 0, 0, 0, 0)).2.2.2.2.2.1 (s0.getD s8.toNat (0, 0, 0, 0, 0, 0, 0)).2.2.2.2.2.2 b0_0 b0_1 b0_2 b0_3 b0_4 b0_5 b0_6).bind fun x0 =>
   bif x0 then some (.inr s8)
   else rec s0 s7 (w64 (s8 + 1)) b0_0 b0_1 b0_2 b0_3 b0_4 b0_5 b0_6)
  else none)
 else some (.inl ())
def slices_IndexFunc_Pay__view_May_fn1_fn1_L0 (k : Nat) : Nat → slices_IndexFunc_Pay__view_May_fn1_fn1_L0T
 | 0, _, _, _, _, _, _, _, _, _, _ => none
 | n + 1, s0, s7, s8, b0_0, b0_1, b0_2, b0_3, b0_4, b0_5, b0_6 => slices_IndexFunc_Pay__view_May_fn1_fn1_L0b k (slices_IndexFunc_Pay__view_May_fn1_fn1_L0 k n) s0 s7 s8 b0_0 b0_1 b0_2 b0_3 b0_4 b0_5 b0_6
def slices_IndexFunc_Pay__view_May_fn1_fn1 (k : Nat) (a0 : List K9q) (a1_0ID a1_0From a1_0To a1_0Amount a1_0Class a1_0Start a1_0Till : Int) : Option Int :=
 (slices_IndexFunc_Pay__view_May_fn1_fn1_L0 k k a0 (a0.length : Int) 0 a1_0ID a1_0From a1_0To a1_0Amount a1_0Class a1_0Start a1_0Till).bind fun z =>
 match z with
 | .inl z1 => some (-1)
 | .inr z2 => some z2
def slices_ContainsFunc_Pay__view_May_fn1_fn1 (k : Nat) (a0 : List K9q) (a1_0ID a1_0From a1_0To a1_0Amount a1_0Class a1_0Start a1_0Till : Int) : Option Bool :=
 (slices_IndexFunc_Pay__view_May_fn1_fn1 k a0 a1_0ID a1_0From a1_0To a1_0Amount a1_0Class a1_0Start a1_0Till).bind fun x0 =>
 some (decide (x0 ≥ 0))
def view_May_fn1 (k : Nat) (a0ID a0From a0To a0Amount a0Class a0Start a0Till : Int) (a1 : List (Int × Bool)) (a2 : List K9q) : Option (Bool × (List (Int × Bool))) :=
 bif !(Option.getD (List.lookup a0From a1) false) then some (true, ((a0From, true) :: a1))
 else bif decide (a0Class = 3) then ((slices_ContainsFunc_Pay__view_May_fn1_fn1 k a2 a0ID a0From a0To a0Amount a0Class a0Start a0Till).bind fun x0 =>
  some ((!x0), ((a0From, true) :: a1)))
 else some (false, ((a0From, true) :: a1))
abbrev view_all__view_May_fn1_L0X : Type := (List (Int × Bool)) × (List K9q) × (List K9q)
abbrev view_all__view_May_fn1_L0T : Type := List K9q → Int → Int → List (Int × Bool) → List K9q → List K9q → Option view_all__view_May_fn1_L0X
def view_all__view_May_fn1_L0b (k : Nat) (rec : view_all__view_May_fn1_L0T) (s8 : List K9q) (s9 s10 : Int) (p1 : List (Int × Bool)) (b2_0 r3 : List K9q) : Option view_all__view_May_fn1_L0X :=
 bif decide (s10 < s9) then (bif boundOk s10 s8.length then ((view_May_fn1 k (s8.getD s10.toNat (0, 0, 0, 0, 0, 0, 0)).1 (s8.getD s10.toNat (0, 0, 0, 0, 0, 0, 0)).2.1 (s8.getD s10.toNat (0, 0, 0, 0, 0, 0, 0)).2.2.1 (s8.getD s10.toNat (0, 0, 0, 0, 0, 0, 0)).2.2.2.1 (s8.getD s10.toNat (0, 0, 0, 0, 0, 0, 0)).2.2.2.2.1 (s8.getD s10.toNat (0, 0, 0, 0, 0, 0, 0)).2.2.2.2.2.1 (s8.getD s10.toNat (0, 0, 0, 0, 0, 0, 0)).2.2.2.2.2.2 p1 b2_0).bind fun x0 =>
   bif x0.1 then (bif roomB (r3.length + 1) 56 then (let y0 : List K9q := (r3 ++ [(s8.getD s10.toNat (0, 0, 0, 0, 0, 0, 0))])
     rec s8 s9 (w64 (s10 + 1)) x0.2 b2_0 y0)
    else none)
   else rec s8 s9 (w64 (s10 + 1)) x0.2 b2_0 r3)
  else none)
 else some (p1, b2_0, r3)
def view_all__view_May_fn1_L0 (k : Nat) : Nat → view_all__view_May_fn1_L0T
 | 0, _, _, _, _, _, _ => none
 | n + 1, s8, s9, s10, p1, b2_0, r3 => view_all__view_May_fn1_L0b k (view_all__view_May_fn1_L0 k n) s8 s9 s10 p1 b2_0 r3
def view_all__view_May_fn1 (k : Nat) (a0 : List K9q) (a1_0 : List (Int × Bool)) (a1_1 : List K9q) : Option ((List K9q) × (List (Int × Bool))) :=
 (view_all__view_May_fn1_L0 k k a0 (a0.length : Int) 0 a1_0 a1_1 []).bind fun z =>
 some (z.2.2, z.1)
def view_May (k : Nat) (a0 : List K9q) (a1 : Int) : Option (List K9q) :=
 (view_Ready k a0 a1).bind fun x0 =>
 (view_all__view_May_fn1 k x0 [] x0).bind fun x1 =>
 some x1.1
def fits_May (k : Nat) (a0Accts : List K10q) (a0Bil : List (List Int)) (a0Mul : List Int) (a0Pos : List (List Int)) (a1ID a1From a1To a1Amount a1Class a1Start a1Till : Int) : Option Bool :=
 bif decide (a1From ≥ 0) then (bif decide (a1From < (a0Accts.length : Int)) then (bif decide (a1To ≥ 0) then (bif decide (a1To < (a0Accts.length : Int)) then (bif !(decide (a1From = a1To)) then (bif decide (a1Amount ≥ 1) then (bif decide (a1Amount ≤ 1099511627776) then (bif decide (a1Class ≥ 1) then some (decide (a1Class ≤ 3))
        else some false)
       else some false)
      else some false)
     else some false)
    else some false)
   else some false)
  else some false)
 else some false
def fits_Fits_fn1 (k : Nat) (a0ID a0From a0To a0Amount a0Class a0Start a0Till : Int) (a1Accts : List K10q) (a1Bil : List (List Int)) (a1Mul : List Int) (a1Pos : List (List Int)) : Option Bool :=
 (fits_May k a1Accts a1Bil a1Mul a1Pos a0ID a0From a0To a0Amount a0Class a0Start a0Till).bind fun x0 =>
 some (!x0)
abbrev slices_IndexFunc_Pay__fits_Fits_fn1_L0T : Type := List K9q → Int → Int → List K10q → List (List Int) → List Int → List (List Int) → Option (Unit ⊕ Int)
def slices_IndexFunc_Pay__fits_Fits_fn1_L0b (k : Nat) (rec : slices_IndexFunc_Pay__fits_Fits_fn1_L0T) (s0 : List K9q) (s7 s8 : Int) (b0_0 : List K10q) (b0_1 : List (List Int)) (b0_2 : List Int) (b0_3 : List (List Int)) : Option (Unit ⊕ Int) :=
 bif decide (s8 < s7) then (bif boundOk s8 s0.length then ((fits_Fits_fn1 k (s0.getD s8.toNat (0, 0, 0, 0, 0, 0, 0)).1 (s0.getD s8.toNat (0, 0, 0, 0, 0, 0, 0)).2.1 (s0.getD s8.toNat (0, 0, 0, 0, 0, 0, 0)).2.2.1 (s0.getD s8.toNat (0, 0, 0, 0, 0, 0, 0)).2.2.2.1 (s0.getD s8.toNat (0, 0, 0, 0, 0, 0, 0)).2.2.2.2.1 (s0.getD s8.toNat (0, 0, 0, 0, 0, 0, 0)).2.2.2.2.2.1 (s0.getD s8.toNat (0, 0, 0, 0, 0, 0, 0)).2.2.2.2.2.2 b0_0 b0_1 b0_2 b0_3).bind fun x0 =>
   bif x0 then some (.inr s8)
   else rec s0 s7 (w64 (s8 + 1)) b0_0 b0_1 b0_2 b0_3)
  else none)
 else some (.inl ())
def slices_IndexFunc_Pay__fits_Fits_fn1_L0 (k : Nat) : Nat → slices_IndexFunc_Pay__fits_Fits_fn1_L0T
 | 0, _, _, _, _, _, _, _ => none
 | n + 1, s0, s7, s8, b0_0, b0_1, b0_2, b0_3 => slices_IndexFunc_Pay__fits_Fits_fn1_L0b k (slices_IndexFunc_Pay__fits_Fits_fn1_L0 k n) s0 s7 s8 b0_0 b0_1 b0_2 b0_3
def slices_IndexFunc_Pay__fits_Fits_fn1 (k : Nat) (a0 : List K9q) (a1_0Accts : List K10q) (a1_0Bil : List (List Int)) (a1_0Mul : List Int) (a1_0Pos : List (List Int)) : Option Int :=
 (slices_IndexFunc_Pay__fits_Fits_fn1_L0 k k a0 (a0.length : Int) 0 a1_0Accts a1_0Bil a1_0Mul a1_0Pos).bind fun z =>
 match z with
 | .inl z1 => some (-1)
 | .inr z2 => some z2
def slices_ContainsFunc_Pay__fits_Fits_fn1 (k : Nat) (a0 : List K9q) (a1_0Accts : List K10q) (a1_0Bil : List (List Int)) (a1_0Mul : List Int) (a1_0Pos : List (List Int)) : Option Bool :=
 (slices_IndexFunc_Pay__fits_Fits_fn1 k a0 a1_0Accts a1_0Bil a1_0Mul a1_0Pos).bind fun x0 =>
 some (decide (x0 ≥ 0))
abbrev fits_moved_L0X : Type := (List Int) × (List Int) × (List (List Int))
abbrev fits_moved_L0T : Type := List K9q → Int → Int → List Int → List Int → List (List Int) → Option fits_moved_L0X
def fits_moved_L0b (k : Nat) (rec : fits_moved_L0T) (s15 : List K9q) (s16 s17 : Int) (r2 r3 : List Int) (m4 : List (List Int)) : Option fits_moved_L0X :=
 bif decide (s17 < s16) then (bif boundOk s17 s15.length then (bif boundOk (s15.getD s17.toNat (0, 0, 0, 0, 0, 0, 0)).2.1 r2.length then (bif boundOk (s15.getD s17.toNat (0, 0, 0, 0, 0, 0, 0)).2.1 r2.length then (let y0 : List Int := (r2.set (s15.getD s17.toNat (0, 0, 0, 0, 0, 0, 0)).2.1.toNat (w64 ((r2.getD (s15.getD s17.toNat (0, 0, 0, 0, 0, 0, 0)).2.1.toNat 0) - (s15.getD s17.toNat (0, 0, 0, 0, 0, 0, 0)).2.2.2.1)))
     bif boundOk (s15.getD s17.toNat (0, 0, 0, 0, 0, 0, 0)).2.2.1 y0.length then (bif boundOk (s15.getD s17.toNat (0, 0, 0, 0, 0, 0, 0)).2.2.1 y0.length then (let y1 : List Int := (y0.set (s15.getD s17.toNat (0, 0, 0, 0, 0, 0, 0)).2.2.1.toNat (w64 ((y0.getD (s15.getD s17.toNat (0, 0, 0, 0, 0, 0, 0)).2.2.1.toNat 0) + (s15.getD s17.toNat (0, 0, 0, 0, 0, 0, 0)).2.2.2.1)))
       bif boundOk (s15.getD s17.toNat (0, 0, 0, 0, 0, 0, 0)).2.1 m4.length then (bif boundOk (s15.getD s17.toNat (0, 0, 0, 0, 0, 0, 0)).2.2.1 (m4.getD (s15.getD s17.toNat (0, 0, 0, 0, 0, 0, 0)).2.1.toNat []).length then (bif boundOk (s15.getD s17.toNat (0, 0, 0, 0, 0, 0, 0)).2.2.1 (m4.getD (s15.getD s17.toNat (0, 0, 0, 0, 0, 0, 0)).2.1.toNat []).length then (let y2 : List (List Int) := (m4.set (s15.getD s17.toNat (0, 0, 0, 0, 0, 0, 0)).2.1.toNat ((m4.getD (s15.getD s17.toNat (0, 0, 0, 0, 0, 0, 0)).2.1.toNat []).set (s15.getD s17.toNat (0, 0, 0, 0, 0, 0, 0)).2.2.1.toNat (w64 (((m4.getD (s15.getD s17.toNat (0, 0, 0, 0, 0, 0, 0)).2.1.toNat []).getD (s15.getD s17.toNat (0, 0, 0, 0, 0, 0, 0)).2.2.1.toNat 0) + (s15.getD s17.toNat (0, 0, 0, 0, 0, 0, 0)).2.2.2.1))))
          bif boundOk (s15.getD s17.toNat (0, 0, 0, 0, 0, 0, 0)).2.2.1 y2.length then (bif boundOk (s15.getD s17.toNat (0, 0, 0, 0, 0, 0, 0)).2.1 (y2.getD (s15.getD s17.toNat (0, 0, 0, 0, 0, 0, 0)).2.2.1.toNat []).length then (bif boundOk (s15.getD s17.toNat (0, 0, 0, 0, 0, 0, 0)).2.1 (y2.getD (s15.getD s17.toNat (0, 0, 0, 0, 0, 0, 0)).2.2.1.toNat []).length then (let y3 : List (List Int) := (y2.set (s15.getD s17.toNat (0, 0, 0, 0, 0, 0, 0)).2.2.1.toNat ((y2.getD (s15.getD s17.toNat (0, 0, 0, 0, 0, 0, 0)).2.2.1.toNat []).set (s15.getD s17.toNat (0, 0, 0, 0, 0, 0, 0)).2.1.toNat (w64 (((y2.getD (s15.getD s17.toNat (0, 0, 0, 0, 0, 0, 0)).2.2.1.toNat []).getD (s15.getD s17.toNat (0, 0, 0, 0, 0, 0, 0)).2.1.toNat 0) - (s15.getD s17.toNat (0, 0, 0, 0, 0, 0, 0)).2.2.2.1))))
             bif !(decide ((s15.getD s17.toNat (0, 0, 0, 0, 0, 0, 0)).2.2.2.2.1 = 3)) then (bif boundOk (s15.getD s17.toNat (0, 0, 0, 0, 0, 0, 0)).2.1 r3.length then (bif boundOk (s15.getD s17.toNat (0, 0, 0, 0, 0, 0, 0)).2.1 r3.length then (let y4 : List Int := (r3.set (s15.getD s17.toNat (0, 0, 0, 0, 0, 0, 0)).2.1.toNat (w64 ((r3.getD (s15.getD s17.toNat (0, 0, 0, 0, 0, 0, 0)).2.1.toNat 0) + (s15.getD s17.toNat (0, 0, 0, 0, 0, 0, 0)).2.2.2.1)))
                rec s15 s16 (w64 (s17 + 1)) y1 y4 y3)
               else none)
              else none)
             else rec s15 s16 (w64 (s17 + 1)) y1 r3 y3)
            else none)
           else none)
          else none)
         else none)
        else none)
       else none)
      else none)
     else none)
    else none)
   else none)
  else none)
 else some (r2, r3, m4)
def fits_moved_L0 (k : Nat) : Nat → fits_moved_L0T
 | 0, _, _, _, _, _, _ => none
 | n + 1, s15, s16, s17, r2, r3, m4 => fits_moved_L0b k (fits_moved_L0 k n) s15 s16 s17 r2 r3 m4
def fits_moved (k : Nat) (a0 : Int) (a1 : List K9q) : Option ((List Int) × (List Int) × (List (List Int))) :=
 (lim_Row k a0 0).bind fun x0 =>
 (lim_Row k a0 0).bind fun x1 =>
 (lim_Square k a0 0).bind fun x2 =>
 (fits_moved_L0 k k a1 (a1.length : Int) 0 x0 x1 x2).bind fun z =>
 some (z.1, z.2.1, z.2.2)
def fits_Short_fn1 (k : Nat) (a0ID a0From a0To a0Amount a0Class a0Start a0Till a1 : Int) : Option Bool :=
 some (decide (a0From = a1))
abbrev slices_IndexFunc_Pay__fits_Short_fn1_L0T : Type := List K9q → Int → Int → Int → Option (Unit ⊕ Int)
def slices_IndexFunc_Pay__fits_Short_fn1_L0b (k : Nat) (rec : slices_IndexFunc_Pay__fits_Short_fn1_L0T) (s0 : List K9q) (s7 s8 b0_0 : Int) : Option (Unit ⊕ Int) :=
 bif decide (s8 < s7) then (bif boundOk s8 s0.length then ((fits_Short_fn1 k (s0.getD s8.toNat (0, 0, 0, 0, 0, 0, 0)).1 (s0.getD s8.toNat (0, 0, 0, 0, 0, 0, 0)).2.1 (s0.getD s8.toNat (0, 0, 0, 0, 0, 0, 0)).2.2.1 (s0.getD s8.toNat (0, 0, 0, 0, 0, 0, 0)).2.2.2.1 (s0.getD s8.toNat (0, 0, 0, 0, 0, 0, 0)).2.2.2.2.1 (s0.getD s8.toNat (0, 0, 0, 0, 0, 0, 0)).2.2.2.2.2.1 (s0.getD s8.toNat (0, 0, 0, 0, 0, 0, 0)).2.2.2.2.2.2 b0_0).bind fun x0 =>
   bif x0 then some (.inr s8)
   else rec s0 s7 (w64 (s8 + 1)) b0_0)
  else none)
 else some (.inl ())
def slices_IndexFunc_Pay__fits_Short_fn1_L0 (k : Nat) : Nat → slices_IndexFunc_Pay__fits_Short_fn1_L0T
 | 0, _, _, _, _ => none
 | n + 1, s0, s7, s8, b0_0 => slices_IndexFunc_Pay__fits_Short_fn1_L0b k (slices_IndexFunc_Pay__fits_Short_fn1_L0 k n) s0 s7 s8 b0_0
def slices_IndexFunc_Pay__fits_Short_fn1 (k : Nat) (a0 : List K9q) (a1_0 : Int) : Option Int :=
 (slices_IndexFunc_Pay__fits_Short_fn1_L0 k k a0 (a0.length : Int) 0 a1_0).bind fun z =>
 match z with
 | .inl z1 => some (-1)
 | .inr z2 => some z2
def slices_ContainsFunc_Pay__fits_Short_fn1 (k : Nat) (a0 : List K9q) (a1_0 : Int) : Option Bool :=
 (slices_IndexFunc_Pay__fits_Short_fn1 k a0 a1_0).bind fun x0 =>
 some (decide (x0 ≥ 0))
def lim_Net_L0b (k : Nat) (rec : Int → List Int → Int → Int → Option Int) (s5 : Int) (s12 : List Int) (s13 s14 : Int) : Option Int :=
 bif decide (s14 < s13) then (bif boundOk s14 s12.length then (rec (w64 (s5 + (s12.getD s14.toNat 0))) s12 s13 (w64 (s14 + 1)))
  else none)
 else some s5
def lim_Net_L0 (k : Nat) : Nat → Int → List Int → Int → Int → Option Int
 | 0, _, _, _, _ => none
 | n + 1, s5, s12, s13, s14 => lim_Net_L0b k (lim_Net_L0 k n) s5 s12 s13 s14
def lim_Net (k : Nat) (a0Accts : List K10q) (a0Bil : List (List Int)) (a0Mul : List Int) (a0Pos : List (List Int)) (a1 : Int) : Option Int :=
 bif boundOk a1 a0Pos.length then ((lim_Net_L0 k k 0 (a0Pos.getD a1.toNat []) ((a0Pos.getD a1.toNat []).length : Int) 0).bind fun z =>
  some z)
 else none
def fits_over (k : Nat) (a0 a1 : Int) : Option Bool :=
 bif !(decide (a1 = (-1))) then some (decide (a0 > a1))
 else some false
def fits_move_isShort_fn1 (k : Nat) (a0ID a0From a0To a0Amount a0Class a0Start a0Till a1 a2Balance a2Credit a2Reserve : Int) (a3more a3spent : List Int) (a3sent : List (List Int)) (a4 : Int) (a5Accts : List K10q) (a5Bil : List (List Int)) (a5Mul : List Int) (a5Pos : List (List Int)) : Option Bool :=
 bif !(decide (a0From = a1)) then some false
 else bif boundOk a1 a3spent.length then ((acct_Kept k a2Balance a2Credit a2Reserve (a3spent.getD a1.toNat 0)).bind fun x0 =>
  bif decide (a0Class = 3) then (bif decide (a4 < x0) then some true
   else bif boundOk a1 a5Pos.length then (bif boundOk a0To (a5Pos.getD a1.toNat []).length then (bif boundOk a1 a3sent.length then (bif boundOk a0To (a3sent.getD a1.toNat []).length then (bif boundOk a1 a5Bil.length then (bif boundOk a0To (a5Bil.getD a1.toNat []).length then ((fits_over k (w64 (((a5Pos.getD a1.toNat []).getD a0To.toNat 0) + ((a3sent.getD a1.toNat []).getD a0To.toNat 0))) ((a5Bil.getD a1.toNat []).getD a0To.toNat 0)).bind fun x1 =>
         some x1)
        else none)
       else none)
      else none)
     else none)
    else none)
   else none)
  else bif boundOk a1 a5Pos.length then (bif boundOk a0To (a5Pos.getD a1.toNat []).length then (bif boundOk a1 a3sent.length then (bif boundOk a0To (a3sent.getD a1.toNat []).length then (bif boundOk a1 a5Bil.length then (bif boundOk a0To (a5Bil.getD a1.toNat []).length then ((fits_over k (w64 (((a5Pos.getD a1.toNat []).getD a0To.toNat 0) + ((a3sent.getD a1.toNat []).getD a0To.toNat 0))) ((a5Bil.getD a1.toNat []).getD a0To.toNat 0)).bind fun x2 =>
        some x2)
       else none)
      else none)
     else none)
    else none)
   else none)
  else none)
 else none
abbrev slices_IndexFunc_Pay__fits_move_isShort_fn1_L0T : Type := List K9q → Int → Int → Int → Int → Int → Int → List Int → List Int → List (List Int) → Int → List K10q → List (List Int) → List Int → List (List Int) → Option (Unit ⊕ Int)
def slices_IndexFunc_Pay__fits_move_isShort_fn1_L0b (k : Nat) (rec : slices_IndexFunc_Pay__fits_move_isShort_fn1_L0T) (s0 : List K9q) (s7 s8 b0_0 b1_0 b1_1 b1_2 : Int) (b2_0 b2_1 : List Int) (b2_2 : List (List Int)) (b3_0 : Int) (b4_0 : List K10q) (b4_1 : List (List Int)) (b4_2 : List Int) (b4_3 : List (List Int)) : Option (Unit ⊕ Int) :=
 bif decide (s8 < s7) then (bif boundOk s8 s0.length then ((fits_move_isShort_fn1 k (s0.getD s8.toNat (0, 0, 0, 0, 0, 0, 0)).1 (s0.getD s8.toNat (0, 0, 0, 0, 0, 0, 0)).2.1 (s0.getD s8.toNat (0, 0, 0, 0, 0, 0, 0)).2.2.1 (s0.getD s8.toNat (0, 0, 0, 0, 0, 0, 0)).2.2.2.1 (s0.getD s8.toNat (0, 0, 0, 0, 0, 0, 0)).2.2.2.2.1 (s0.getD s8.toNat (0, 0, 0, 0, 0, 0, 0)).2.2.2.2.2.1 (s0.getD s8.toNat (0, 0, 0, 0, 0, 0, 0)).2.2.2.2.2.2 b0_0 b1_0 b1_1 b1_2 b2_0 b2_1 b2_2 b3_0 b4_0 b4_1 b4_2 b4_3).bind fun x0 =>
   bif x0 then some (.inr s8)
   else rec s0 s7 (w64 (s8 + 1)) b0_0 b1_0 b1_1 b1_2 b2_0 b2_1 b2_2 b3_0 b4_0 b4_1 b4_2 b4_3)
  else none)
 else some (.inl ())
def slices_IndexFunc_Pay__fits_move_isShort_fn1_L0 (k : Nat) : Nat → slices_IndexFunc_Pay__fits_move_isShort_fn1_L0T
 | 0, _, _, _, _, _, _, _, _, _, _, _, _, _, _, _ => none
 | n + 1, s0, s7, s8, b0_0, b1_0, b1_1, b1_2, b2_0, b2_1, b2_2, b3_0, b4_0, b4_1, b4_2, b4_3 => slices_IndexFunc_Pay__fits_move_isShort_fn1_L0b k (slices_IndexFunc_Pay__fits_move_isShort_fn1_L0 k n) s0 s7 s8 b0_0 b1_0 b1_1 b1_2 b2_0 b2_1 b2_2 b3_0 b4_0 b4_1 b4_2 b4_3
def slices_IndexFunc_Pay__fits_move_isShort_fn1 (k : Nat) (a0 : List K9q) (a1_0 a1_1Balance a1_1Credit a1_1Reserve : Int) (a1_2more a1_2spent : List Int) (a1_2sent : List (List Int)) (a1_3 : Int) (a1_4Accts : List K10q) (a1_4Bil : List (List Int)) (a1_4Mul : List Int) (a1_4Pos : List (List Int)) : Option Int :=
 (slices_IndexFunc_Pay__fits_move_isShort_fn1_L0 k k a0 (a0.length : Int) 0 a1_0 a1_1Balance a1_1Credit a1_1Reserve a1_2more a1_2spent a1_2sent a1_3 a1_4Accts a1_4Bil a1_4Mul a1_4Pos).bind fun z =>
 match z with
 | .inl z1 => some (-1)
 | .inr z2 => some z2
def slices_ContainsFunc_Pay__fits_move_isShort_fn1 (k : Nat) (a0 : List K9q) (a1_0 a1_1Balance a1_1Credit a1_1Reserve : Int) (a1_2more a1_2spent : List Int) (a1_2sent : List (List Int)) (a1_3 : Int) (a1_4Accts : List K10q) (a1_4Bil : List (List Int)) (a1_4Mul : List Int) (a1_4Pos : List (List Int)) : Option Bool :=
 (slices_IndexFunc_Pay__fits_move_isShort_fn1 k a0 a1_0 a1_1Balance a1_1Credit a1_1Reserve a1_2more a1_2spent a1_2sent a1_3 a1_4Accts a1_4Bil a1_4Mul a1_4Pos).bind fun x0 =>
 some (decide (x0 ≥ 0))
abbrev fits_move_isShort_L0X : Type := (List K9q) × Int × (List Int) × (List Int) × (List (List Int)) × (List K10q) × (List (List Int)) × (List Int) × (List (List Int)) × Int × Int × Int × Int × Int
abbrev fits_move_isShort_L0T : Type := List K9q → Int → List Int → Int → Int → List Int → List Int → List (List Int) → List K10q → List (List Int) → List Int → List (List Int) → Int → Int → Int → Int → Int → Option fits_move_isShort_L0X
def fits_move_isShort_L0b (k : Nat) (rec : fits_move_isShort_L0T) (s3 : List K9q) (s11 : Int) (s39 : List Int) (s40 s41 : Int) (b0_0 b0_1 : List Int) (b0_2 : List (List Int)) (b1_0 : List K10q) (b1_1 : List (List Int)) (b1_2 : List Int) (b1_3 : List (List Int)) (b2_0 b3_0 b3_1 b3_2 b4_0 : Int) : Option fits_move_isShort_L0X :=
 bif decide (s41 < s40) then (bif boundOk s41 s39.length then (rec s3 (w64 (s11 + (s39.getD s41.toNat 0))) s39 s40 (w64 (s41 + 1)) b0_0 b0_1 b0_2 b1_0 b1_1 b1_2 b1_3 b2_0 b3_0 b3_1 b3_2 b4_0)
  else none)
 else some (s3, s11, b0_0, b0_1, b0_2, b1_0, b1_1, b1_2, b1_3, b2_0, b3_0, b3_1, b3_2, b4_0)
def fits_move_isShort_L0 (k : Nat) : Nat → fits_move_isShort_L0T
 | 0, _, _, _, _, _, _, _, _, _, _, _, _, _, _, _, _, _ => none
 | n + 1, s3, s11, s39, s40, s41, b0_0, b0_1, b0_2, b1_0, b1_1, b1_2, b1_3, b2_0, b3_0, b3_1, b3_2, b4_0 => fits_move_isShort_L0b k (fits_move_isShort_L0 k n) s3 s11 s39 s40 s41 b0_0 b0_1 b0_2 b1_0 b1_1 b1_2 b1_3 b2_0 b3_0 b3_1 b3_2 b4_0
def fits_move_isShort (k : Nat) (a0more a0spent : List Int) (a0sent : List (List Int)) (a1Accts : List K10q) (a1Bil : List (List Int)) (a1Mul : List Int) (a1Pos : List (List Int)) (a2 : Int) (a3 : List K9q) : Option Bool :=
 bif boundOk a2 a1Accts.length then (bif boundOk a2 a0more.length then (bif decide ((w64 ((w64 ((a1Accts.getD a2.toNat (0, 0, 0)).1 + (a1Accts.getD a2.toNat (0, 0, 0)).2.1)) + (a0more.getD a2.toNat 0))) < 0) then some true
   else (lim_Net k a1Accts a1Bil a1Mul a1Pos a2).bind fun x0 =>
   bif boundOk a2 a0sent.length then ((fits_move_isShort_L0 k k a3 x0 (a0sent.getD a2.toNat []) ((a0sent.getD a2.toNat []).length : Int) 0 a0more a0spent a0sent a1Accts a1Bil a1Mul a1Pos a2 (a1Accts.getD a2.toNat (0, 0, 0)).1 (a1Accts.getD a2.toNat (0, 0, 0)).2.1 (a1Accts.getD a2.toNat (0, 0, 0)).2.2 (w64 ((w64 ((a1Accts.getD a2.toNat (0, 0, 0)).1 + (a1Accts.getD a2.toNat (0, 0, 0)).2.1)) + (a0more.getD a2.toNat 0)))).bind fun z =>
    bif boundOk z.2.2.2.2.2.2.2.2.2.1 z.2.2.2.2.2.2.2.1.length then ((fits_over k z.2.1 (z.2.2.2.2.2.2.2.1.getD z.2.2.2.2.2.2.2.2.2.1.toNat 0)).bind fun x1 =>
     bif x1 then some true
     else (slices_ContainsFunc_Pay__fits_move_isShort_fn1 k z.1 z.2.2.2.2.2.2.2.2.2.1 z.2.2.2.2.2.2.2.2.2.2.1 z.2.2.2.2.2.2.2.2.2.2.2.1 z.2.2.2.2.2.2.2.2.2.2.2.2.1 z.2.2.1 z.2.2.2.1 z.2.2.2.2.1 z.2.2.2.2.2.2.2.2.2.2.2.2.2 z.2.2.2.2.2.1 z.2.2.2.2.2.2.1 z.2.2.2.2.2.2.2.1 z.2.2.2.2.2.2.2.2.1).bind fun x2 =>
     some x2)
    else none)
   else none)
  else none)
 else none
abbrev fits_Short_L0T : Type := List K9q → Int → Int → List K10q → List (List Int) → List Int → List (List Int) → List Int → List Int → List (List Int) → List Int → Option (List Int)
def fits_Short_L0b (k : Nat) (rec : fits_Short_L0T) (s1 : List K9q) (s16 s17 : Int) (b0_0 : List K10q) (b0_1 : List (List Int)) (b0_2 : List Int) (b0_3 : List (List Int)) (r2 r3 : List Int) (m4 : List (List Int)) (r5 : List Int) : Option (List Int) :=
 bif decide (s17 < s16) then ((slices_ContainsFunc_Pay__fits_Short_fn1 k s1 s17).bind fun x1 =>
  bif x1 then ((fits_move_isShort k r2 r3 m4 b0_0 b0_1 b0_2 b0_3 s17 s1).bind fun x2 =>
   bif x2 then (bif roomB (r5.length + 1) 8 then (rec s1 s16 (w64 (s17 + 1)) b0_0 b0_1 b0_2 b0_3 r2 r3 m4 (r5 ++ [s17]))
    else none)
   else rec s1 s16 (w64 (s17 + 1)) b0_0 b0_1 b0_2 b0_3 r2 r3 m4 r5)
  else rec s1 s16 (w64 (s17 + 1)) b0_0 b0_1 b0_2 b0_3 r2 r3 m4 r5)
 else some r5
def fits_Short_L0 (k : Nat) : Nat → fits_Short_L0T
 | 0, _, _, _, _, _, _, _, _, _, _, _ => none
 | n + 1, s1, s16, s17, b0_0, b0_1, b0_2, b0_3, r2, r3, m4, r5 => fits_Short_L0b k (fits_Short_L0 k n) s1 s16 s17 b0_0 b0_1 b0_2 b0_3 r2 r3 m4 r5
def fits_Short (k : Nat) (a0Accts : List K10q) (a0Bil : List (List Int)) (a0Mul : List Int) (a0Pos : List (List Int)) (a1 : List K9q) : Option (List Int) :=
 (fits_moved k (a0Accts.length : Int) a1).bind fun x0 =>
 (fits_Short_L0 k k a1 (a0Accts.length : Int) 0 a0Accts a0Bil a0Mul a0Pos x0.1 x0.2.1 x0.2.2 []).bind fun z =>
 some z
def fits_Fits (k : Nat) (a0Accts : List K10q) (a0Bil : List (List Int)) (a0Mul : List Int) (a0Pos : List (List Int)) (a1 : List K9q) : Option Bool :=
 bif decide ((a1.length : Int) ≤ 64) then ((slices_ContainsFunc_Pay__fits_Fits_fn1 k a1 a0Accts a0Bil a0Mul a0Pos).bind fun x0 =>
  bif !x0 then ((fits_Short k a0Accts a0Bil a0Mul a0Pos a1).bind fun x1 =>
   some (decide ((x1.length : Int) = 0)))
  else some false)
 else some false
def post_Post_fn1 (k : Nat) (a0ID a0From a0To a0Amount a0Class a0Start a0Till : Int) (a1Accts : List K10q) (a1Bil : List (List Int)) (a1Mul : List Int) (a1Pos : List (List Int)) : Option Bool :=
 (fits_May k a1Accts a1Bil a1Mul a1Pos a0ID a0From a0To a0Amount a0Class a0Start a0Till).bind fun x0 =>
 some (!x0)
abbrev slices_IndexFunc_Pay__post_Post_fn1_L0T : Type := List K9q → Int → Int → List K10q → List (List Int) → List Int → List (List Int) → Option (Unit ⊕ Int)
def slices_IndexFunc_Pay__post_Post_fn1_L0b (k : Nat) (rec : slices_IndexFunc_Pay__post_Post_fn1_L0T) (s0 : List K9q) (s7 s8 : Int) (b0_0 : List K10q) (b0_1 : List (List Int)) (b0_2 : List Int) (b0_3 : List (List Int)) : Option (Unit ⊕ Int) :=
 bif decide (s8 < s7) then (bif boundOk s8 s0.length then ((post_Post_fn1 k (s0.getD s8.toNat (0, 0, 0, 0, 0, 0, 0)).1 (s0.getD s8.toNat (0, 0, 0, 0, 0, 0, 0)).2.1 (s0.getD s8.toNat (0, 0, 0, 0, 0, 0, 0)).2.2.1 (s0.getD s8.toNat (0, 0, 0, 0, 0, 0, 0)).2.2.2.1 (s0.getD s8.toNat (0, 0, 0, 0, 0, 0, 0)).2.2.2.2.1 (s0.getD s8.toNat (0, 0, 0, 0, 0, 0, 0)).2.2.2.2.2.1 (s0.getD s8.toNat (0, 0, 0, 0, 0, 0, 0)).2.2.2.2.2.2 b0_0 b0_1 b0_2 b0_3).bind fun x0 =>
   bif x0 then some (.inr s8)
   else rec s0 s7 (w64 (s8 + 1)) b0_0 b0_1 b0_2 b0_3)
  else none)
 else some (.inl ())
def slices_IndexFunc_Pay__post_Post_fn1_L0 (k : Nat) : Nat → slices_IndexFunc_Pay__post_Post_fn1_L0T
 | 0, _, _, _, _, _, _, _ => none
 | n + 1, s0, s7, s8, b0_0, b0_1, b0_2, b0_3 => slices_IndexFunc_Pay__post_Post_fn1_L0b k (slices_IndexFunc_Pay__post_Post_fn1_L0 k n) s0 s7 s8 b0_0 b0_1 b0_2 b0_3
def slices_IndexFunc_Pay__post_Post_fn1 (k : Nat) (a0 : List K9q) (a1_0Accts : List K10q) (a1_0Bil : List (List Int)) (a1_0Mul : List Int) (a1_0Pos : List (List Int)) : Option Int :=
 (slices_IndexFunc_Pay__post_Post_fn1_L0 k k a0 (a0.length : Int) 0 a1_0Accts a1_0Bil a1_0Mul a1_0Pos).bind fun z =>
 match z with
 | .inl z1 => some (-1)
 | .inr z2 => some z2
def slices_ContainsFunc_Pay__post_Post_fn1 (k : Nat) (a0 : List K9q) (a1_0Accts : List K10q) (a1_0Bil : List (List Int)) (a1_0Mul : List Int) (a1_0Pos : List (List Int)) : Option Bool :=
 (slices_IndexFunc_Pay__post_Post_fn1 k a0 a1_0Accts a1_0Bil a1_0Mul a1_0Pos).bind fun x0 =>
 some (decide (x0 ≥ 0))
def lim_Is_fn1 (k : Nat) (a0Balance a0Credit a0Reserve : Int) : Option Bool :=
 (acct_Is k a0Balance a0Credit a0Reserve).bind fun x0 =>
 some (!x0)
abbrev slices_IndexFunc_Acct__lim_Is_fn1_L0T : Type := List K10q → Int → Int → Option (Unit ⊕ Int)
def slices_IndexFunc_Acct__lim_Is_fn1_L0b (k : Nat) (rec : slices_IndexFunc_Acct__lim_Is_fn1_L0T) (s0 : List K10q) (s7 s8 : Int) : Option (Unit ⊕ Int) :=
 bif decide (s8 < s7) then (bif boundOk s8 s0.length then ((lim_Is_fn1 k (s0.getD s8.toNat (0, 0, 0)).1 (s0.getD s8.toNat (0, 0, 0)).2.1 (s0.getD s8.toNat (0, 0, 0)).2.2).bind fun x0 =>
   bif x0 then some (.inr s8)
   else rec s0 s7 (w64 (s8 + 1)))
  else none)
 else some (.inl ())
def slices_IndexFunc_Acct__lim_Is_fn1_L0 (k : Nat) : Nat → slices_IndexFunc_Acct__lim_Is_fn1_L0T
 | 0, _, _, _ => none
 | n + 1, s0, s7, s8 => slices_IndexFunc_Acct__lim_Is_fn1_L0b k (slices_IndexFunc_Acct__lim_Is_fn1_L0 k n) s0 s7 s8
def slices_IndexFunc_Acct__lim_Is_fn1 (k : Nat) (a0 : List K10q) : Option Int :=
 (slices_IndexFunc_Acct__lim_Is_fn1_L0 k k a0 (a0.length : Int) 0).bind fun z =>
 match z with
 | .inl z1 => some (-1)
 | .inr z2 => some z2
def slices_ContainsFunc_Acct__lim_Is_fn1 (k : Nat) (a0 : List K10q) : Option Bool :=
 (slices_IndexFunc_Acct__lim_Is_fn1 k a0).bind fun x0 =>
 some (decide (x0 ≥ 0))
def lim_isLimit (k : Nat) (a0 : Int) : Option Bool :=
 bif decide (a0 ≥ (-1)) then some (decide (a0 ≤ 2305843009213693952))
 else some false
def lim_isRow_fn1__lim_isLimit (k : Nat) (a0 : Int) : Option Bool :=
 (lim_isLimit k a0).bind fun x0 =>
 some (!x0)
abbrev slices_IndexFunc_int64__lim_isRow_fn1__lim_isLimit_L0T : Type := List Int → Int → Int → Option (Unit ⊕ Int)
def slices_IndexFunc_int64__lim_isRow_fn1__lim_isLimit_L0b (k : Nat) (rec : slices_IndexFunc_int64__lim_isRow_fn1__lim_isLimit_L0T) (s0 : List Int) (s7 s8 : Int) : Option (Unit ⊕ Int) :=
 bif decide (s8 < s7) then (bif boundOk s8 s0.length then ((lim_isRow_fn1__lim_isLimit k (s0.getD s8.toNat 0)).bind fun x0 =>
   bif x0 then some (.inr s8)
   else rec s0 s7 (w64 (s8 + 1)))
  else none)
 else some (.inl ())
def slices_IndexFunc_int64__lim_isRow_fn1__lim_isLimit_L0 (k : Nat) : Nat → slices_IndexFunc_int64__lim_isRow_fn1__lim_isLimit_L0T
 | 0, _, _, _ => none
 | n + 1, s0, s7, s8 => slices_IndexFunc_int64__lim_isRow_fn1__lim_isLimit_L0b k (slices_IndexFunc_int64__lim_isRow_fn1__lim_isLimit_L0 k n) s0 s7 s8
def slices_IndexFunc_int64__lim_isRow_fn1__lim_isLimit (k : Nat) (a0 : List Int) : Option Int :=
 (slices_IndexFunc_int64__lim_isRow_fn1__lim_isLimit_L0 k k a0 (a0.length : Int) 0).bind fun z =>
 match z with
 | .inl z1 => some (-1)
 | .inr z2 => some z2
def slices_ContainsFunc_int64__lim_isRow_fn1__lim_isLimit (k : Nat) (a0 : List Int) : Option Bool :=
 (slices_IndexFunc_int64__lim_isRow_fn1__lim_isLimit k a0).bind fun x0 =>
 some (decide (x0 ≥ 0))
def lim_isRow__lim_isLimit (k : Nat) (a0 : List Int) (a1 : Int) : Option Bool :=
 bif decide ((a0.length : Int) = a1) then ((slices_ContainsFunc_int64__lim_isRow_fn1__lim_isLimit k a0).bind fun x0 =>
  some (!x0))
 else some false
abbrev lim_isSquare__lim_isLimit_L0T : Type := Int → List (List Int) → Int → Int → Option (Unit ⊕ Bool)
def lim_isSquare__lim_isLimit_L0b (k : Nat) (rec : lim_isSquare__lim_isLimit_L0T) (s1 : Int) (s13 : List (List Int)) (s14 s15 : Int) : Option (Unit ⊕ Bool) :=
 bif decide (s15 < s14) then (bif boundOk s15 s13.length then ((lim_isRow__lim_isLimit k (s13.getD s15.toNat []) s1).bind fun x0 =>
   bif !x0 then some (.inr false)
   else rec s1 s13 s14 (w64 (s15 + 1)))
  else none)
 else some (.inl ())
def lim_isSquare__lim_isLimit_L0 (k : Nat) : Nat → lim_isSquare__lim_isLimit_L0T
 | 0, _, _, _, _ => none
 | n + 1, s1, s13, s14, s15 => lim_isSquare__lim_isLimit_L0b k (lim_isSquare__lim_isLimit_L0 k n) s1 s13 s14 s15
def lim_isSquare__lim_isLimit (k : Nat) (a0 : List (List Int)) (a1 : Int) : Option Bool :=
 bif !(decide ((a0.length : Int) = a1)) then some false
 else (lim_isSquare__lim_isLimit_L0 k k a1 a0 (a0.length : Int) 0).bind fun z =>
 match z with
 | .inl z1 => some true
 | .inr z2 => some z2
def lim_isNet (k : Nat) (a0 : Int) : Option Bool :=
 bif decide (a0 > (-72057594037927936)) then some (decide (a0 < 72057594037927936))
 else some false
def lim_isRow_fn1__lim_isNet (k : Nat) (a0 : Int) : Option Bool :=
 (lim_isNet k a0).bind fun x0 =>
 some (!x0)
abbrev slices_IndexFunc_int64__lim_isRow_fn1__lim_isNet_L0T : Type := List Int → Int → Int → Option (Unit ⊕ Int)
def slices_IndexFunc_int64__lim_isRow_fn1__lim_isNet_L0b (k : Nat) (rec : slices_IndexFunc_int64__lim_isRow_fn1__lim_isNet_L0T) (s0 : List Int) (s7 s8 : Int) : Option (Unit ⊕ Int) :=
 bif decide (s8 < s7) then (bif boundOk s8 s0.length then ((lim_isRow_fn1__lim_isNet k (s0.getD s8.toNat 0)).bind fun x0 =>
   bif x0 then some (.inr s8)
   else rec s0 s7 (w64 (s8 + 1)))
  else none)
 else some (.inl ())
def slices_IndexFunc_int64__lim_isRow_fn1__lim_isNet_L0 (k : Nat) : Nat → slices_IndexFunc_int64__lim_isRow_fn1__lim_isNet_L0T
 | 0, _, _, _ => none
 | n + 1, s0, s7, s8 => slices_IndexFunc_int64__lim_isRow_fn1__lim_isNet_L0b k (slices_IndexFunc_int64__lim_isRow_fn1__lim_isNet_L0 k n) s0 s7 s8
def slices_IndexFunc_int64__lim_isRow_fn1__lim_isNet (k : Nat) (a0 : List Int) : Option Int :=
 (slices_IndexFunc_int64__lim_isRow_fn1__lim_isNet_L0 k k a0 (a0.length : Int) 0).bind fun z =>
 match z with
 | .inl z1 => some (-1)
 | .inr z2 => some z2
def slices_ContainsFunc_int64__lim_isRow_fn1__lim_isNet (k : Nat) (a0 : List Int) : Option Bool :=
 (slices_IndexFunc_int64__lim_isRow_fn1__lim_isNet k a0).bind fun x0 =>
 some (decide (x0 ≥ 0))
def lim_isRow__lim_isNet (k : Nat) (a0 : List Int) (a1 : Int) : Option Bool :=
 bif decide ((a0.length : Int) = a1) then ((slices_ContainsFunc_int64__lim_isRow_fn1__lim_isNet k a0).bind fun x0 =>
  some (!x0))
 else some false
abbrev lim_isSquare__lim_isNet_L0T : Type := Int → List (List Int) → Int → Int → Option (Unit ⊕ Bool)
def lim_isSquare__lim_isNet_L0b (k : Nat) (rec : lim_isSquare__lim_isNet_L0T) (s1 : Int) (s13 : List (List Int)) (s14 s15 : Int) : Option (Unit ⊕ Bool) :=
 bif decide (s15 < s14) then (bif boundOk s15 s13.length then ((lim_isRow__lim_isNet k (s13.getD s15.toNat []) s1).bind fun x0 =>
   bif !x0 then some (.inr false)
   else rec s1 s13 s14 (w64 (s15 + 1)))
  else none)
 else some (.inl ())
def lim_isSquare__lim_isNet_L0 (k : Nat) : Nat → lim_isSquare__lim_isNet_L0T
 | 0, _, _, _, _ => none
 | n + 1, s1, s13, s14, s15 => lim_isSquare__lim_isNet_L0b k (lim_isSquare__lim_isNet_L0 k n) s1 s13 s14 s15
def lim_isSquare__lim_isNet (k : Nat) (a0 : List (List Int)) (a1 : Int) : Option Bool :=
 bif !(decide ((a0.length : Int) = a1)) then some false
 else (lim_isSquare__lim_isNet_L0 k k a1 a0 (a0.length : Int) 0).bind fun z =>
 match z with
 | .inl z1 => some true
 | .inr z2 => some z2
abbrev lim_isTurned_L1X : Type := ((List (List Int)) × (List (List Int)) × Int × Int) ⊕ Bool
abbrev lim_isTurned_L1T : Type := List (List Int) → Int → List (List Int) → Int → Int → List Int → Int → Int → Option lim_isTurned_L1X
def lim_isTurned_L1b (k : Nat) (rec : lim_isTurned_L1T) (s0 : List (List Int)) (s3 : Int) (s7 : List (List Int)) (s8 s9 : Int) (s14 : List Int) (s15 s16 : Int) : Option lim_isTurned_L1X :=
 bif decide (s16 < s15) then (bif boundOk s16 s14.length then (bif boundOk s16 s0.length then (bif boundOk s3 (s0.getD s16.toNat []).length then (bif !(decide (((s0.getD s16.toNat []).getD s3.toNat 0) = (w64 (0 - (s14.getD s16.toNat 0))))) then some (.inr false)
     else rec s0 s3 s7 s8 s9 s14 s15 (w64 (s16 + 1)))
    else none)
   else none)
  else none)
 else some (.inl (s0, s7, s8, s9))
def lim_isTurned_L1 (k : Nat) : Nat → lim_isTurned_L1T
 | 0, _, _, _, _, _, _, _, _ => none
 | n + 1, s0, s3, s7, s8, s9, s14, s15, s16 => lim_isTurned_L1b k (lim_isTurned_L1 k n) s0 s3 s7 s8 s9 s14 s15 s16
abbrev lim_isTurned_L0T : Type := List (List Int) → List (List Int) → Int → Int → Option (Unit ⊕ Bool)
def lim_isTurned_L0b (k : Nat) (rec : lim_isTurned_L0T) (s0 s7 : List (List Int)) (s8 s9 : Int) : Option (Unit ⊕ Bool) :=
 bif decide (s9 < s8) then (bif boundOk s9 s7.length then ((lim_isTurned_L1 k k s0 s9 s7 s8 s9 (s7.getD s9.toNat []) ((s7.getD s9.toNat []).length : Int) 0).bind fun z =>
   match z with
   | .inl z1 => rec z1.1 z1.2.1 z1.2.2.1 (w64 (z1.2.2.2 + 1))
   | .inr z2 => some (.inr z2))
  else none)
 else some (.inl ())
def lim_isTurned_L0 (k : Nat) : Nat → lim_isTurned_L0T
 | 0, _, _, _, _ => none
 | n + 1, s0, s7, s8, s9 => lim_isTurned_L0b k (lim_isTurned_L0 k n) s0 s7 s8 s9
def lim_isTurned (k : Nat) (a0 : List (List Int)) : Option Bool :=
 (lim_isTurned_L0 k k a0 a0 (a0.length : Int) 0).bind fun z3 =>
 match z3 with
 | .inl z4 => some true
 | .inr z5 => some z5
def lim_Is (k : Nat) (a0Accts : List K10q) (a0Bil : List (List Int)) (a0Mul : List Int) (a0Pos : List (List Int)) : Option Bool :=
 bif decide ((a0Accts.length : Int) < 1) then some false
 else bif decide ((a0Accts.length : Int) > 6) then some false
 else (slices_ContainsFunc_Acct__lim_Is_fn1 k a0Accts).bind fun x0 =>
 bif x0 then some false
 else (lim_isSquare__lim_isLimit k a0Bil (a0Accts.length : Int)).bind fun x1 =>
 bif x1 then ((lim_isRow__lim_isLimit k a0Mul (a0Accts.length : Int)).bind fun x2 =>
  bif x2 then ((lim_isSquare__lim_isNet k a0Pos (a0Accts.length : Int)).bind fun x3 =>
   bif x3 then ((lim_isTurned k a0Pos).bind fun x4 =>
    some x4)
   else some false)
  else some false)
 else some false
abbrev post_Post_L0X : Type := (List K10q) × (List (List Int)) × (List Int) × (List (List Int)) × (List K10q) × (List (List Int)) × (List Int) × (List (List Int))
abbrev post_Post_L0T : Type := List K9q → Int → Int → List K10q → List (List Int) → List Int → List (List Int) → List K10q → List (List Int) → List Int → List (List Int) → Option post_Post_L0X
def post_Post_L0b (k : Nat) (rec : post_Post_L0T) (s24 : List K9q) (s25 s26 : Int) (b0_0 : List K10q) (b0_1 : List (List Int)) (b0_2 : List Int) (b0_3 : List (List Int)) (r3 : List K10q) (m4 : List (List Int)) (r5 : List Int) (m6 : List (List Int)) : Option post_Post_L0X :=
 bif decide (s26 < s25) then (bif boundOk s26 s24.length then (bif boundOk (s24.getD s26.toNat (0, 0, 0, 0, 0, 0, 0)).2.1 r3.length then (bif boundOk (s24.getD s26.toNat (0, 0, 0, 0, 0, 0, 0)).2.2.1 r3.length then (let y0 : List K10q := (r3.set (s24.getD s26.toNat (0, 0, 0, 0, 0, 0, 0)).2.1.toNat ((w64 ((r3.getD (s24.getD s26.toNat (0, 0, 0, 0, 0, 0, 0)).2.1.toNat (0, 0, 0)).1 - (s24.getD s26.toNat (0, 0, 0, 0, 0, 0, 0)).2.2.2.1)), (r3.getD (s24.getD s26.toNat (0, 0, 0, 0, 0, 0, 0)).2.1.toNat (0, 0, 0)).2))
     let y1 : List K10q := (y0.set (s24.getD s26.toNat (0, 0, 0, 0, 0, 0, 0)).2.2.1.toNat ((w64 ((y0.getD (s24.getD s26.toNat (0, 0, 0, 0, 0, 0, 0)).2.2.1.toNat (0, 0, 0)).1 + (s24.getD s26.toNat (0, 0, 0, 0, 0, 0, 0)).2.2.2.1)), (y0.getD (s24.getD s26.toNat (0, 0, 0, 0, 0, 0, 0)).2.2.1.toNat (0, 0, 0)).2))
     bif !(decide ((s24.getD s26.toNat (0, 0, 0, 0, 0, 0, 0)).2.2.2.2.1 = 3)) then ((acct_Kept k (y1.getD (s24.getD s26.toNat (0, 0, 0, 0, 0, 0, 0)).2.1.toNat (0, 0, 0)).1 (y1.getD (s24.getD s26.toNat (0, 0, 0, 0, 0, 0, 0)).2.1.toNat (0, 0, 0)).2.1 (y1.getD (s24.getD s26.toNat (0, 0, 0, 0, 0, 0, 0)).2.1.toNat (0, 0, 0)).2.2 (s24.getD s26.toNat (0, 0, 0, 0, 0, 0, 0)).2.2.2.1).bind fun x2 =>
      let y2 : List K10q := (y1.set (s24.getD s26.toNat (0, 0, 0, 0, 0, 0, 0)).2.1.toNat ((y1.getD (s24.getD s26.toNat (0, 0, 0, 0, 0, 0, 0)).2.1.toNat (0, 0, 0)).1, (y1.getD (s24.getD s26.toNat (0, 0, 0, 0, 0, 0, 0)).2.1.toNat (0, 0, 0)).2.1, x2))
      bif boundOk (s24.getD s26.toNat (0, 0, 0, 0, 0, 0, 0)).2.1 m6.length then (bif boundOk (s24.getD s26.toNat (0, 0, 0, 0, 0, 0, 0)).2.2.1 (m6.getD (s24.getD s26.toNat (0, 0, 0, 0, 0, 0, 0)).2.1.toNat []).length then (bif boundOk (s24.getD s26.toNat (0, 0, 0, 0, 0, 0, 0)).2.2.1 (m6.getD (s24.getD s26.toNat (0, 0, 0, 0, 0, 0, 0)).2.1.toNat []).length then (let y3 : List (List Int) := (m6.set (s24.getD s26.toNat (0, 0, 0, 0, 0, 0, 0)).2.1.toNat ((m6.getD (s24.getD s26.toNat (0, 0, 0, 0, 0, 0, 0)).2.1.toNat []).set (s24.getD s26.toNat (0, 0, 0, 0, 0, 0, 0)).2.2.1.toNat (w64 (((m6.getD (s24.getD s26.toNat (0, 0, 0, 0, 0, 0, 0)).2.1.toNat []).getD (s24.getD s26.toNat (0, 0, 0, 0, 0, 0, 0)).2.2.1.toNat 0) + (s24.getD s26.toNat (0, 0, 0, 0, 0, 0, 0)).2.2.2.1))))
         bif boundOk (s24.getD s26.toNat (0, 0, 0, 0, 0, 0, 0)).2.2.1 y3.length then (bif boundOk (s24.getD s26.toNat (0, 0, 0, 0, 0, 0, 0)).2.1 (y3.getD (s24.getD s26.toNat (0, 0, 0, 0, 0, 0, 0)).2.2.1.toNat []).length then (bif boundOk (s24.getD s26.toNat (0, 0, 0, 0, 0, 0, 0)).2.1 (y3.getD (s24.getD s26.toNat (0, 0, 0, 0, 0, 0, 0)).2.2.1.toNat []).length then (let y4 : List (List Int) := (y3.set (s24.getD s26.toNat (0, 0, 0, 0, 0, 0, 0)).2.2.1.toNat ((y3.getD (s24.getD s26.toNat (0, 0, 0, 0, 0, 0, 0)).2.2.1.toNat []).set (s24.getD s26.toNat (0, 0, 0, 0, 0, 0, 0)).2.1.toNat (w64 (((y3.getD (s24.getD s26.toNat (0, 0, 0, 0, 0, 0, 0)).2.2.1.toNat []).getD (s24.getD s26.toNat (0, 0, 0, 0, 0, 0, 0)).2.1.toNat 0) - (s24.getD s26.toNat (0, 0, 0, 0, 0, 0, 0)).2.2.2.1))))
            rec s24 s25 (w64 (s26 + 1)) b0_0 b0_1 b0_2 b0_3 y2 m4 r5 y4)
           else none)
          else none)
         else none)
        else none)
       else none)
      else none)
     else bif boundOk (s24.getD s26.toNat (0, 0, 0, 0, 0, 0, 0)).2.1 m6.length then (bif boundOk (s24.getD s26.toNat (0, 0, 0, 0, 0, 0, 0)).2.2.1 (m6.getD (s24.getD s26.toNat (0, 0, 0, 0, 0, 0, 0)).2.1.toNat []).length then (bif boundOk (s24.getD s26.toNat (0, 0, 0, 0, 0, 0, 0)).2.2.1 (m6.getD (s24.getD s26.toNat (0, 0, 0, 0, 0, 0, 0)).2.1.toNat []).length then (let y5 : List (List Int) := (m6.set (s24.getD s26.toNat (0, 0, 0, 0, 0, 0, 0)).2.1.toNat ((m6.getD (s24.getD s26.toNat (0, 0, 0, 0, 0, 0, 0)).2.1.toNat []).set (s24.getD s26.toNat (0, 0, 0, 0, 0, 0, 0)).2.2.1.toNat (w64 (((m6.getD (s24.getD s26.toNat (0, 0, 0, 0, 0, 0, 0)).2.1.toNat []).getD (s24.getD s26.toNat (0, 0, 0, 0, 0, 0, 0)).2.2.1.toNat 0) + (s24.getD s26.toNat (0, 0, 0, 0, 0, 0, 0)).2.2.2.1))))
        bif boundOk (s24.getD s26.toNat (0, 0, 0, 0, 0, 0, 0)).2.2.1 y5.length then (bif boundOk (s24.getD s26.toNat (0, 0, 0, 0, 0, 0, 0)).2.1 (y5.getD (s24.getD s26.toNat (0, 0, 0, 0, 0, 0, 0)).2.2.1.toNat []).length then (bif boundOk (s24.getD s26.toNat (0, 0, 0, 0, 0, 0, 0)).2.1 (y5.getD (s24.getD s26.toNat (0, 0, 0, 0, 0, 0, 0)).2.2.1.toNat []).length then (let y6 : List (List Int) := (y5.set (s24.getD s26.toNat (0, 0, 0, 0, 0, 0, 0)).2.2.1.toNat ((y5.getD (s24.getD s26.toNat (0, 0, 0, 0, 0, 0, 0)).2.2.1.toNat []).set (s24.getD s26.toNat (0, 0, 0, 0, 0, 0, 0)).2.1.toNat (w64 (((y5.getD (s24.getD s26.toNat (0, 0, 0, 0, 0, 0, 0)).2.2.1.toNat []).getD (s24.getD s26.toNat (0, 0, 0, 0, 0, 0, 0)).2.1.toNat 0) - (s24.getD s26.toNat (0, 0, 0, 0, 0, 0, 0)).2.2.2.1))))
           rec s24 s25 (w64 (s26 + 1)) b0_0 b0_1 b0_2 b0_3 y1 m4 r5 y6)
          else none)
         else none)
        else none)
       else none)
      else none)
     else none)
    else none)
   else none)
  else none)
 else some (b0_0, b0_1, b0_2, b0_3, r3, m4, r5, m6)
def post_Post_L0 (k : Nat) : Nat → post_Post_L0T
 | 0, _, _, _, _, _, _, _, _, _, _, _ => none
 | n + 1, s24, s25, s26, b0_0, b0_1, b0_2, b0_3, r3, m4, r5, m6 => post_Post_L0b k (post_Post_L0 k n) s24 s25 s26 b0_0 b0_1 b0_2 b0_3 r3 m4 r5 m6
def post_Post (k : Nat) (a0Accts : List K10q) (a0Bil : List (List Int)) (a0Mul : List Int) (a0Pos : List (List Int)) (a1 : List K9q) : Option ((List K10q) × (List (List Int)) × (List Int) × (List (List Int)) × Int) :=
 bif decide ((a1.length : Int) > 64) then some (a0Accts, a0Bil, a0Mul, a0Pos, 1)
 else (slices_ContainsFunc_Pay__post_Post_fn1 k a1 a0Accts a0Bil a0Mul a0Pos).bind fun x0 =>
 bif x0 then some (a0Accts, a0Bil, a0Mul, a0Pos, 1)
 else (lim_Copy k a0Accts a0Bil a0Mul a0Pos).bind fun x1 =>
 (post_Post_L0 k k a1 (a1.length : Int) 0 a0Accts a0Bil a0Mul a0Pos x1.1 x1.2.1 x1.2.2.1 x1.2.2.2).bind fun z =>
 (lim_Is k z.2.2.2.2.1 z.2.2.2.2.2.1 z.2.2.2.2.2.2.1 z.2.2.2.2.2.2.2).bind fun x3 =>
 bif !x3 then some (j0_4 z 8)
 else some (f4_4 z 0)
abbrev free_next_L0X : Type := ((List K10q) × (List (List Int)) × (List Int) × (List (List Int)) × Int × Int × Int × Int × Int × Int × Int) ⊕ (Bool × Int × Int × Int × Int × Int × Int × Int × (List K10q) × (List (List Int)) × (List Int) × (List (List Int)))
abbrev free_next_L0T : Type := Int → Int → List K10q → List (List Int) → List Int → List (List Int) → Int → Int → Int → Int → Int → Int → Int → List K9q → Option free_next_L0X
def free_next_L0b (k : Nat) (rec : free_next_L0T) (s16 s17 : Int) (b0_0 : List K10q) (b0_1 : List (List Int)) (b0_2 : List Int) (b0_3 : List (List Int)) (b1_0 b1_1 b1_2 b1_3 b1_4 b1_5 b1_6 : Int) (r3 : List K9q) : Option free_next_L0X :=
 bif decide (s17 < s16) then (bif boundOk s17 r3.length then ((fits_Fits k b0_0 b0_1 b0_2 b0_3 [(r3.getD s17.toNat (0, 0, 0, 0, 0, 0, 0))]).bind fun x1 =>
   bif !x1 then (rec s16 (w64 (s17 + 1)) b0_0 b0_1 b0_2 b0_3 b1_0 b1_1 b1_2 b1_3 b1_4 b1_5 b1_6 r3)
   else (post_Post k b0_0 b0_1 b0_2 b0_3 [(r3.getD s17.toNat (0, 0, 0, 0, 0, 0, 0))]).bind fun x2 =>
   bif decide (x2.2.2.2.2 = 0) then some (.inr (true, (f0_7 (r3.getD s17.toNat (0, 0, 0, 0, 0, 0, 0)) (g0_4 x2))))
   else rec s16 (w64 (s17 + 1)) b0_0 b0_1 b0_2 b0_3 b1_0 b1_1 b1_2 b1_3 b1_4 b1_5 b1_6 r3)
  else none)
 else some (.inl (b0_0, b0_1, b0_2, b0_3, b1_0, b1_1, b1_2, b1_3, b1_4, b1_5, b1_6))
def free_next_L0 (k : Nat) : Nat → free_next_L0T
 | 0, _, _, _, _, _, _, _, _, _, _, _, _, _, _ => none
 | n + 1, s16, s17, b0_0, b0_1, b0_2, b0_3, b1_0, b1_1, b1_2, b1_3, b1_4, b1_5, b1_6, r3 => free_next_L0b k (free_next_L0 k n) s16 s17 b0_0 b0_1 b0_2 b0_3 b1_0 b1_1 b1_2 b1_3 b1_4 b1_5 b1_6 r3
def free_next (k : Nat) (a0Accts : List K10q) (a0Bil : List (List Int)) (a0Mul : List Int) (a0Pos : List (List Int)) (a1 : List K9q) (a2 : Int) : Option (Int × Int × Int × Int × Int × Int × Int × (List K10q) × (List (List Int)) × (List Int) × (List (List Int)) × Bool) :=
 (view_May k a1 a2).bind fun x0 =>
 (free_next_L0 k k (x0.length : Int) 0 a0Accts a0Bil a0Mul a0Pos 0 0 0 0 0 0 0 x0).bind fun z =>
 match z with
 | .inl z1 => some (0, 0, 0, 0, 0, 0, 0, (j0_4 z1 false))
 | .inr z2 => some (f1_11 z2 z2.1)
abbrev free_Run_L0X : Type := (List K9q) × (List K10q) × (List (List Int)) × (List Int) × (List (List Int)) × (List K9q)
abbrev free_Run_L0T : Type := Int → List K9q → List K10q → List (List Int) → List Int → List (List Int) → List K9q → Option free_Run_L0X
def free_Run_L0b (k : Nat) (rec : free_Run_L0T) (s2 : Int) (s7 : List K9q) (b0_0 : List K10q) (b0_1 : List (List Int)) (b0_2 : List Int) (b0_3 : List (List Int)) (r1 : List K9q) : Option free_Run_L0X :=
 (free_next k b0_0 b0_1 b0_2 b0_3 s7 s2).bind fun x0 =>
 bif !x0.2.2.2.2.2.2.2.2.2.2.2 then some (s7, b0_0, b0_1, b0_2, b0_3, r1)
 else (row_Drop k s7 x0.1).bind fun x1 =>
 bif roomB (r1.length + 1) 56 then (let y0 : List K9q := (r1 ++ [(g0_7 x0)])
  rec s2 x1.1 x0.2.2.2.2.2.2.2.1 x0.2.2.2.2.2.2.2.2.1 x0.2.2.2.2.2.2.2.2.2.1 x0.2.2.2.2.2.2.2.2.2.2.1 y0)
 else none
def free_Run_L0 (k : Nat) : Nat → free_Run_L0T
 | 0, _, _, _, _, _, _, _ => none
 | n + 1, s2, s7, b0_0, b0_1, b0_2, b0_3, r1 => free_Run_L0b k (free_Run_L0 k n) s2 s7 b0_0 b0_1 b0_2 b0_3 r1
def free_Run (k : Nat) (a0Accts : List K10q) (a0Bil : List (List Int)) (a0Mul : List Int) (a0Pos : List (List Int)) (a1 : List K9q) (a2 : Int) : Option K12q :=
 (free_Run_L0 k k a2 a1 a0Accts a0Bil a0Mul a0Pos []).bind fun z =>
 some (j1_4 z (z.1, z.2.2.2.2.2))
abbrev pair_next_L1X : Type := (Int × Int × (List K10q) × (List (List Int)) × (List Int) × (List (List Int)) × Int × Int × Int × Int × Int × Int × Int × Int × Int × Int × Int × Int × Int × Int × (List K9q)) ⊕ K15q
abbrev pair_next_L1T : Type := Int → Int → Int → Int → List K10q → List (List Int) → List Int → List (List Int) → Int → Int → Int → Int → Int → Int → Int → Int → Int → Int → Int → Int → Int → Int → List K9q → Int → Int → Int → Int → Int → Int → Int → Option pair_next_L1X
def pair_next_L1b (k : Nat) (rec : pair_next_L1T) (s19 s20 s25 s26 : Int) (b0_0 : List K10q) (b0_1 : List (List Int)) (b0_2 : List Int) (b0_3 : List (List Int)) (b1_0 b1_1 b1_2 b1_3 b1_4 b1_5 b1_6 b1_7 b1_8 b1_9 b1_10 b1_11 b1_12 b1_13 : Int) (r2 : List K9q) (b3_0 b3_1 b3_2 b3_3 b3_4 b3_5 b3_6 : Int) : Option pair_next_L1X :=
 bif decide (s26 < s25) then (bif boundOk s26 r2.length then (bif !(decide ((r2.getD s26.toNat (0, 0, 0, 0, 0, 0, 0)).2.1 = b3_2)) then (rec s19 s20 s25 (w64 (s26 + 1)) b0_0 b0_1 b0_2 b0_3 b1_0 b1_1 b1_2 b1_3 b1_4 b1_5 b1_6 b1_7 b1_8 b1_9 b1_10 b1_11 b1_12 b1_13 r2 b3_0 b3_1 b3_2 b3_3 b3_4 b3_5 b3_6)
   else bif !(decide ((r2.getD s26.toNat (0, 0, 0, 0, 0, 0, 0)).2.2.1 = b3_1)) then (rec s19 s20 s25 (w64 (s26 + 1)) b0_0 b0_1 b0_2 b0_3 b1_0 b1_1 b1_2 b1_3 b1_4 b1_5 b1_6 b1_7 b1_8 b1_9 b1_10 b1_11 b1_12 b1_13 r2 b3_0 b3_1 b3_2 b3_3 b3_4 b3_5 b3_6)
   else bif decide (b3_1 ≥ (r2.getD s26.toNat (0, 0, 0, 0, 0, 0, 0)).2.1) then (rec s19 s20 s25 (w64 (s26 + 1)) b0_0 b0_1 b0_2 b0_3 b1_0 b1_1 b1_2 b1_3 b1_4 b1_5 b1_6 b1_7 b1_8 b1_9 b1_10 b1_11 b1_12 b1_13 r2 b3_0 b3_1 b3_2 b3_3 b3_4 b3_5 b3_6)
   else (fits_Fits k b0_0 b0_1 b0_2 b0_3 [(b3_0, b3_1, b3_2, b3_3, b3_4, b3_5, b3_6), (r2.getD s26.toNat (0, 0, 0, 0, 0, 0, 0))]).bind fun x1 =>
   bif !x1 then (rec s19 s20 s25 (w64 (s26 + 1)) b0_0 b0_1 b0_2 b0_3 b1_0 b1_1 b1_2 b1_3 b1_4 b1_5 b1_6 b1_7 b1_8 b1_9 b1_10 b1_11 b1_12 b1_13 r2 b3_0 b3_1 b3_2 b3_3 b3_4 b3_5 b3_6)
   else (post_Post k b0_0 b0_1 b0_2 b0_3 [(b3_0, b3_1, b3_2, b3_3, b3_4, b3_5, b3_6), (r2.getD s26.toNat (0, 0, 0, 0, 0, 0, 0))]).bind fun x2 =>
   bif decide (x2.2.2.2.2 = 0) then some (.inr (true, b3_0, b3_1, b3_2, b3_3, b3_4, b3_5, b3_6, (f0_7 (r2.getD s26.toNat (0, 0, 0, 0, 0, 0, 0)) (g0_4 x2))))
   else rec s19 s20 s25 (w64 (s26 + 1)) b0_0 b0_1 b0_2 b0_3 b1_0 b1_1 b1_2 b1_3 b1_4 b1_5 b1_6 b1_7 b1_8 b1_9 b1_10 b1_11 b1_12 b1_13 r2 b3_0 b3_1 b3_2 b3_3 b3_4 b3_5 b3_6)
  else none)
 else some (.inl (s19, s20, b0_0, b0_1, b0_2, b0_3, b1_0, b1_1, b1_2, b1_3, b1_4, b1_5, b1_6, b1_7, b1_8, b1_9, b1_10, b1_11, b1_12, b1_13, r2))
def pair_next_L1 (k : Nat) : Nat → pair_next_L1T
 | 0, _, _, _, _, _, _, _, _, _, _, _, _, _, _, _, _, _, _, _, _, _, _, _, _, _, _, _, _, _, _ => none
 | n + 1, s19, s20, s25, s26, b0_0, b0_1, b0_2, b0_3, b1_0, b1_1, b1_2, b1_3, b1_4, b1_5, b1_6, b1_7, b1_8, b1_9, b1_10, b1_11, b1_12, b1_13, r2, b3_0, b3_1, b3_2, b3_3, b3_4, b3_5, b3_6 => pair_next_L1b k (pair_next_L1 k n) s19 s20 s25 s26 b0_0 b0_1 b0_2 b0_3 b1_0 b1_1 b1_2 b1_3 b1_4 b1_5 b1_6 b1_7 b1_8 b1_9 b1_10 b1_11 b1_12 b1_13 r2 b3_0 b3_1 b3_2 b3_3 b3_4 b3_5 b3_6
abbrev pair_next_L0X : Type := (Int × Int × Int × Int × Int × Int × Int × Int × Int × Int × Int × Int × Int × Int) ⊕ K15q
abbrev pair_next_L0T : Type := Int → Int → List K10q → List (List Int) → List Int → List (List Int) → Int → Int → Int → Int → Int → Int → Int → Int → Int → Int → Int → Int → Int → Int → List K9q → Option pair_next_L0X
def pair_next_L0b (k : Nat) (rec : pair_next_L0T) (s19 s20 : Int) (b0_0 : List K10q) (b0_1 : List (List Int)) (b0_2 : List Int) (b0_3 : List (List Int)) (b1_0 b1_1 b1_2 b1_3 b1_4 b1_5 b1_6 b1_7 b1_8 b1_9 b1_10 b1_11 b1_12 b1_13 : Int) (r2 : List K9q) : Option pair_next_L0X :=
 bif decide (s20 < s19) then (bif boundOk s20 r2.length then ((pair_next_L1 k k s19 s20 (r2.length : Int) 0 b0_0 b0_1 b0_2 b0_3 b1_0 b1_1 b1_2 b1_3 b1_4 b1_5 b1_6 b1_7 b1_8 b1_9 b1_10 b1_11 b1_12 b1_13 r2 (r2.getD s20.toNat (0, 0, 0, 0, 0, 0, 0)).1 (r2.getD s20.toNat (0, 0, 0, 0, 0, 0, 0)).2.1 (r2.getD s20.toNat (0, 0, 0, 0, 0, 0, 0)).2.2.1 (r2.getD s20.toNat (0, 0, 0, 0, 0, 0, 0)).2.2.2.1 (r2.getD s20.toNat (0, 0, 0, 0, 0, 0, 0)).2.2.2.2.1 (r2.getD s20.toNat (0, 0, 0, 0, 0, 0, 0)).2.2.2.2.2.1 (r2.getD s20.toNat (0, 0, 0, 0, 0, 0, 0)).2.2.2.2.2.2).bind fun z =>
   match z with
   | .inl z1 => rec z1.1 (w64 (z1.2.1 + 1)) z1.2.2.1 z1.2.2.2.1 z1.2.2.2.2.1 z1.2.2.2.2.2.1 z1.2.2.2.2.2.2.1 z1.2.2.2.2.2.2.2.1 z1.2.2.2.2.2.2.2.2.1 z1.2.2.2.2.2.2.2.2.2.1 z1.2.2.2.2.2.2.2.2.2.2.1 z1.2.2.2.2.2.2.2.2.2.2.2.1 z1.2.2.2.2.2.2.2.2.2.2.2.2.1 z1.2.2.2.2.2.2.2.2.2.2.2.2.2.1 z1.2.2.2.2.2.2.2.2.2.2.2.2.2.2.1 z1.2.2.2.2.2.2.2.2.2.2.2.2.2.2.2.1 z1.2.2.2.2.2.2.2.2.2.2.2.2.2.2.2.2.1 z1.2.2.2.2.2.2.2.2.2.2.2.2.2.2.2.2.2.1 z1.2.2.2.2.2.2.2.2.2.2.2.2.2.2.2.2.2.2.1 z1.2.2.2.2.2.2.2.2.2.2.2.2.2.2.2.2.2.2.2.1 z1.2.2.2.2.2.2.2.2.2.2.2.2.2.2.2.2.2.2.2.2
   | .inr z2 => some (.inr (z2.1, z2.2.1, z2.2.2.1, z2.2.2.2.1, z2.2.2.2.2.1, z2.2.2.2.2.2.1, z2.2.2.2.2.2.2.1, z2.2.2.2.2.2.2.2.1, z2.2.2.2.2.2.2.2.2.1, z2.2.2.2.2.2.2.2.2.2.1, z2.2.2.2.2.2.2.2.2.2.2.1, z2.2.2.2.2.2.2.2.2.2.2.2.1, z2.2.2.2.2.2.2.2.2.2.2.2.2.1, z2.2.2.2.2.2.2.2.2.2.2.2.2.2.1, z2.2.2.2.2.2.2.2.2.2.2.2.2.2.2.1, z2.2.2.2.2.2.2.2.2.2.2.2.2.2.2.2.1, z2.2.2.2.2.2.2.2.2.2.2.2.2.2.2.2.2.1, z2.2.2.2.2.2.2.2.2.2.2.2.2.2.2.2.2.2.1, z2.2.2.2.2.2.2.2.2.2.2.2.2.2.2.2.2.2.2)))
  else none)
 else some (.inl (b1_0, b1_1, b1_2, b1_3, b1_4, b1_5, b1_6, b1_7, b1_8, b1_9, b1_10, b1_11, b1_12, b1_13))
def pair_next_L0 (k : Nat) : Nat → pair_next_L0T
 | 0, _, _, _, _, _, _, _, _, _, _, _, _, _, _, _, _, _, _, _, _, _ => none
 | n + 1, s19, s20, b0_0, b0_1, b0_2, b0_3, b1_0, b1_1, b1_2, b1_3, b1_4, b1_5, b1_6, b1_7, b1_8, b1_9, b1_10, b1_11, b1_12, b1_13, r2 => pair_next_L0b k (pair_next_L0 k n) s19 s20 b0_0 b0_1 b0_2 b0_3 b1_0 b1_1 b1_2 b1_3 b1_4 b1_5 b1_6 b1_7 b1_8 b1_9 b1_10 b1_11 b1_12 b1_13 r2
def pair_next (k : Nat) (a0Accts : List K10q) (a0Bil : List (List Int)) (a0Mul : List Int) (a0Pos : List (List Int)) (a1 : List K9q) (a2 : Int) : Option (Int × Int × Int × Int × Int × Int × Int × Int × Int × Int × Int × Int × Int × Int × (List K10q) × (List (List Int)) × (List Int) × (List (List Int)) × Bool) :=
 (view_May k a1 a2).bind fun x0 =>
 (pair_next_L0 k k (x0.length : Int) 0 a0Accts a0Bil a0Mul a0Pos 0 0 0 0 0 0 0 0 0 0 0 0 0 0 x0).bind fun z3 =>
 match z3 with
 | .inl z4 => some (0, 0, 0, 0, 0, 0, 0, 0, 0, 0, 0, 0, 0, 0, [], [], [], [], false)
 | .inr z5 => some (f1_18 z5 z5.1)
abbrev pair_Run_L1X : Type := Int × (List K9q) × (List K10q) × (List (List Int)) × (List Int) × (List (List Int)) × (List K9q)
abbrev pair_Run_L1T : Type := Int → List K9q → Int → Int → List K10q → List (List Int) → List Int → List (List Int) → List K9q → List K9q → Option pair_Run_L1X
def pair_Run_L1b (k : Nat) (rec : pair_Run_L1T) (s2 : Int) (s7 : List K9q) (s34 s35 : Int) (b0_0 : List K10q) (b0_1 : List (List Int)) (b0_2 : List Int) (b0_3 : List (List Int)) (r1 r2 : List K9q) : Option pair_Run_L1X :=
 bif decide (s35 < s34) then (bif boundOk s35 r2.length then ((row_Drop k s7 (r2.getD s35.toNat (0, 0, 0, 0, 0, 0, 0)).1).bind fun x1 =>
   bif roomB (r1.length + 1) 56 then (let y0 : List K9q := (r1 ++ [(r2.getD s35.toNat (0, 0, 0, 0, 0, 0, 0))])
    rec s2 x1.1 s34 (w64 (s35 + 1)) b0_0 b0_1 b0_2 b0_3 y0 r2)
   else none)
  else none)
 else some (s2, s7, b0_0, b0_1, b0_2, b0_3, r1)
def pair_Run_L1 (k : Nat) : Nat → pair_Run_L1T
 | 0, _, _, _, _, _, _, _, _, _, _ => none
 | n + 1, s2, s7, s34, s35, b0_0, b0_1, b0_2, b0_3, r1, r2 => pair_Run_L1b k (pair_Run_L1 k n) s2 s7 s34 s35 b0_0 b0_1 b0_2 b0_3 r1 r2
abbrev pair_Run_L0X : Type := (List K9q) × (List K10q) × (List (List Int)) × (List Int) × (List (List Int)) × (List K9q)
abbrev pair_Run_L0T : Type := Int → List K9q → List K10q → List (List Int) → List Int → List (List Int) → List K9q → Option pair_Run_L0X
def pair_Run_L0b (k : Nat) (rec : pair_Run_L0T) (s2 : Int) (s7 : List K9q) (b0_0 : List K10q) (b0_1 : List (List Int)) (b0_2 : List Int) (b0_3 : List (List Int)) (r1 : List K9q) : Option pair_Run_L0X :=
 (pair_next k b0_0 b0_1 b0_2 b0_3 s7 s2).bind fun x0 =>
 bif !x0.2.2.2.2.2.2.2.2.2.2.2.2.2.2.2.2.2.2 then some (s7, b0_0, b0_1, b0_2, b0_3, r1)
 else (pair_Run_L1 k k s2 s7 2 0 x0.2.2.2.2.2.2.2.2.2.2.2.2.2.2.1 x0.2.2.2.2.2.2.2.2.2.2.2.2.2.2.2.1 x0.2.2.2.2.2.2.2.2.2.2.2.2.2.2.2.2.1 x0.2.2.2.2.2.2.2.2.2.2.2.2.2.2.2.2.2.1 r1 [(g0_7 x0), (g7_7 x0)]).bind fun z =>
 rec z.1 z.2.1 z.2.2.1 z.2.2.2.1 z.2.2.2.2.1 z.2.2.2.2.2.1 z.2.2.2.2.2.2
def pair_Run_L0 (k : Nat) : Nat → pair_Run_L0T
 | 0, _, _, _, _, _, _, _ => none
 | n + 1, s2, s7, b0_0, b0_1, b0_2, b0_3, r1 => pair_Run_L0b k (pair_Run_L0 k n) s2 s7 b0_0 b0_1 b0_2 b0_3 r1
def pair_Run (k : Nat) (a0Accts : List K10q) (a0Bil : List (List Int)) (a0Mul : List Int) (a0Pos : List (List Int)) (a1 : List K9q) (a2 : Int) : Option K12q :=
 (pair_Run_L0 k k a2 a1 a0Accts a0Bil a0Mul a0Pos []).bind fun z1 =>
 some (j1_4 z1 (z1.1, z1.2.2.2.2.2))
abbrev settle_some_L0X : Type := (List K9q) × (List K10q) × (List (List Int)) × (List Int) × (List (List Int)) × (List K9q)
abbrev settle_some_L0T : Type := Int → List K9q → List K10q → List (List Int) → List Int → List (List Int) → List K9q → Option settle_some_L0X
def settle_some_L0b (k : Nat) (rec : settle_some_L0T) (s2 : Int) (s7 : List K9q) (b0_0 : List K10q) (b0_1 : List (List Int)) (b0_2 : List Int) (b0_3 : List (List Int)) (r1 : List K9q) : Option settle_some_L0X :=
 (free_Run k b0_0 b0_1 b0_2 b0_3 s7 s2).bind fun x0 =>
 (pair_Run k x0.1 x0.2.1 x0.2.2.1 x0.2.2.2.1 x0.2.2.2.2.1 s2).bind fun x1 =>
 bif roomB (r1.length + x0.2.2.2.2.2.length) 56 then (bif roomB ((r1 ++ x0.2.2.2.2.2).length + x1.2.2.2.2.2.length) 56 then (let y0 : List K9q := ((r1 ++ x0.2.2.2.2.2) ++ x1.2.2.2.2.2)
   bif decide ((x1.2.2.2.2.2.length : Int) = 0) then some (x1.2.2.2.2.1, (j0_4 x1 y0))
   else rec s2 x1.2.2.2.2.1 x1.1 x1.2.1 x1.2.2.1 x1.2.2.2.1 y0)
  else none)
 else none
def settle_some_L0 (k : Nat) : Nat → settle_some_L0T
 | 0, _, _, _, _, _, _, _ => none
 | n + 1, s2, s7, b0_0, b0_1, b0_2, b0_3, r1 => settle_some_L0b k (settle_some_L0 k n) s2 s7 b0_0 b0_1 b0_2 b0_3 r1
def settle_some (k : Nat) (a0Accts : List K10q) (a0Bil : List (List Int)) (a0Mul : List Int) (a0Pos : List (List Int)) (a1 : List K9q) (a2 : Int) : Option K12q :=
 (settle_some_L0 k k a2 a1 a0Accts a0Bil a0Mul a0Pos []).bind fun z =>
 some (j1_4 z (z.1, z.2.2.2.2.2))
def slices_Clone_int (k : Nat) (a0 : List Int) : Option (List Int) :=
 bif roomB (0 + a0.length) 8 then some a0
 else none
def view_Heads_fn1 (k : Nat) (a0ID a0From a0To a0Amount a0Class a0Start a0Till : Int) (a1 : List Int) : Option (Bool × (List Int)) :=
 bif decide (a0From < 0) then some (false, a1)
 else bif decide (a0From ≥ (a1.length : Int)) then some (false, a1)
 else bif boundOk a0From a1.length then (bif decide ((a1.getD a0From.toNat 0) < 1) then some (false, a1)
  else bif boundOk a0From a1.length then (bif boundOk a0From a1.length then some (true, (a1.set a0From.toNat (w64 ((a1.getD a0From.toNat 0) - 1))))
   else none)
  else none)
 else none
abbrev view_all__view_Heads_fn1_L0X : Type := (List Int) × (List K9q)
abbrev view_all__view_Heads_fn1_L0T : Type := List K9q → Int → Int → List Int → List K9q → Option view_all__view_Heads_fn1_L0X
def view_all__view_Heads_fn1_L0b (k : Nat) (rec : view_all__view_Heads_fn1_L0T) (s8 : List K9q) (s9 s10 : Int) (r1 : List Int) (r2 : List K9q) : Option view_all__view_Heads_fn1_L0X :=
 bif decide (s10 < s9) then (bif boundOk s10 s8.length then ((view_Heads_fn1 k (s8.getD s10.toNat (0, 0, 0, 0, 0, 0, 0)).1 (s8.getD s10.toNat (0, 0, 0, 0, 0, 0, 0)).2.1 (s8.getD s10.toNat (0, 0, 0, 0, 0, 0, 0)).2.2.1 (s8.getD s10.toNat (0, 0, 0, 0, 0, 0, 0)).2.2.2.1 (s8.getD s10.toNat (0, 0, 0, 0, 0, 0, 0)).2.2.2.2.1 (s8.getD s10.toNat (0, 0, 0, 0, 0, 0, 0)).2.2.2.2.2.1 (s8.getD s10.toNat (0, 0, 0, 0, 0, 0, 0)).2.2.2.2.2.2 r1).bind fun x0 =>
   bif x0.1 then (bif roomB (r2.length + 1) 56 then (let y0 : List K9q := (r2 ++ [(s8.getD s10.toNat (0, 0, 0, 0, 0, 0, 0))])
     rec s8 s9 (w64 (s10 + 1)) x0.2 y0)
    else none)
   else rec s8 s9 (w64 (s10 + 1)) x0.2 r2)
  else none)
 else some (r1, r2)
def view_all__view_Heads_fn1_L0 (k : Nat) : Nat → view_all__view_Heads_fn1_L0T
 | 0, _, _, _, _, _ => none
 | n + 1, s8, s9, s10, r1, r2 => view_all__view_Heads_fn1_L0b k (view_all__view_Heads_fn1_L0 k n) s8 s9 s10 r1 r2
def view_all__view_Heads_fn1 (k : Nat) (a0 : List K9q) (a1_0 : List Int) : Option ((List K9q) × (List Int)) :=
 (view_all__view_Heads_fn1_L0 k k a0 (a0.length : Int) 0 a1_0 []).bind fun z =>
 some (z.2, z.1)
def view_Heads (k : Nat) (a0 : List K9q) (a1 : List Int) : Option (List K9q) :=
 (slices_Clone_int k a1).bind fun x0 =>
 (view_all__view_Heads_fn1 k a0 x0).bind fun x1 =>
 some x1.1
abbrev knot_Most_L0X : Type := Int × (List K10q) × (List (List Int)) × (List Int) × (List (List Int)) × (List Int) × (List K9q)
abbrev knot_Most_L0T : Type := Int → Int → Int → List K10q → List (List Int) → List Int → List (List Int) → List Int → List K9q → Option knot_Most_L0X
def knot_Most_L0b (k : Nat) (rec : knot_Most_L0T) (s7 s18 s19 : Int) (b0_0 : List K10q) (b0_1 : List (List Int)) (b0_2 : List Int) (b0_3 : List (List Int)) (r1 : List Int) (r2 : List K9q) : Option knot_Most_L0X :=
 bif decide (s19 < s18) then ((view_Of k r2 s19).bind fun x1 =>
  bif roomB (r1.length + 1) 8 then (rec s7 s18 (w64 (s19 + 1)) b0_0 b0_1 b0_2 b0_3 (r1 ++ [(x1.length : Int)]) r2)
  else none)
 else some (s7, b0_0, b0_1, b0_2, b0_3, r1, r2)
def knot_Most_L0 (k : Nat) : Nat → knot_Most_L0T
 | 0, _, _, _, _, _, _, _, _, _ => none
 | n + 1, s7, s18, s19, b0_0, b0_1, b0_2, b0_3, r1, r2 => knot_Most_L0b k (knot_Most_L0 k n) s7 s18 s19 b0_0 b0_1 b0_2 b0_3 r1 r2
abbrev knot_Most_L2X : Type := Int × (List K10q) × (List (List Int)) × (List Int) × (List (List Int)) × (List Int) × (List K9q)
abbrev knot_Most_L2T : Type := Int → Int → Int → List K10q → List (List Int) → List Int → List (List Int) → List Int → List K9q → List Int → Option knot_Most_L2X
def knot_Most_L2b (k : Nat) (rec : knot_Most_L2T) (s7 s43 s44 : Int) (b0_0 : List K10q) (b0_1 : List (List Int)) (b0_2 : List Int) (b0_3 : List (List Int)) (r1 : List Int) (r2 : List K9q) (r3 : List Int) : Option knot_Most_L2X :=
 bif decide (s44 < s43) then (bif boundOk s44 r3.length then (bif boundOk (r3.getD s44.toNat 0) r1.length then (bif boundOk (r3.getD s44.toNat 0) r1.length then (let y0 : List Int := (r1.set (r3.getD s44.toNat 0).toNat (w64 ((r1.getD (r3.getD s44.toNat 0).toNat 0) - 1)))
     rec s7 s43 (w64 (s44 + 1)) b0_0 b0_1 b0_2 b0_3 y0 r2 r3)
    else none)
   else none)
  else none)
 else some (s7, b0_0, b0_1, b0_2, b0_3, r1, r2)
def knot_Most_L2 (k : Nat) : Nat → knot_Most_L2T
 | 0, _, _, _, _, _, _, _, _, _, _ => none
 | n + 1, s7, s43, s44, b0_0, b0_1, b0_2, b0_3, r1, r2, r3 => knot_Most_L2b k (knot_Most_L2 k n) s7 s43 s44 b0_0 b0_1 b0_2 b0_3 r1 r2 r3
abbrev knot_Most_L1T : Type := Int → List K10q → List (List Int) → List Int → List (List Int) → List Int → List K9q → Option (Int × (List Int))
def knot_Most_L1b (k : Nat) (rec : knot_Most_L1T) (s7 : Int) (b0_0 : List K10q) (b0_1 : List (List Int)) (b0_2 : List Int) (b0_3 : List (List Int)) (r1 : List Int) (r2 : List K9q) : Option (Int × (List Int)) :=
 (view_Heads k r2 r1).bind fun x2 =>
 (fits_Short k b0_0 b0_1 b0_2 b0_3 x2).bind fun x3 =>
 bif decide ((x3.length : Int) = 0) then some ((w64 (s7 + 1)), r1)
 else (knot_Most_L2 k k (w64 (s7 + 1)) (x3.length : Int) 0 b0_0 b0_1 b0_2 b0_3 r1 r2 x3).bind fun z1 =>
 rec z1.1 z1.2.1 z1.2.2.1 z1.2.2.2.1 z1.2.2.2.2.1 z1.2.2.2.2.2.1 z1.2.2.2.2.2.2
def knot_Most_L1 (k : Nat) : Nat → knot_Most_L1T
 | 0, _, _, _, _, _, _, _ => none
 | n + 1, s7, b0_0, b0_1, b0_2, b0_3, r1, r2 => knot_Most_L1b k (knot_Most_L1 k n) s7 b0_0 b0_1 b0_2 b0_3 r1 r2
def knot_Most (k : Nat) (a0Accts : List K10q) (a0Bil : List (List Int)) (a0Mul : List Int) (a0Pos : List (List Int)) (a1 : List K9q) (a2 : Int) : Option ((List Int) × Int) :=
 (view_Ready k a1 a2).bind fun x0 =>
 (knot_Most_L0 k k 0 (a0Accts.length : Int) 0 a0Accts a0Bil a0Mul a0Pos [] x0).bind fun z =>
 (knot_Most_L1 k k z.1 z.2.1 z.2.2.1 z.2.2.2.1 z.2.2.2.2.1 z.2.2.2.2.2.1 z.2.2.2.2.2.2).bind fun z2 =>
 some (z2.2, z2.1)
abbrev knot_Run_L0X : Type := (List K9q) × (List K10q) × (List (List Int)) × (List Int) × (List (List Int)) × (List K9q)
abbrev knot_Run_L0T : Type := List K9q → Int → Int → List K10q → List (List Int) → List Int → List (List Int) → List K9q → Option knot_Run_L0X
def knot_Run_L0b (k : Nat) (rec : knot_Run_L0T) (s7 : List K9q) (s39 s40 : Int) (b0_0 : List K10q) (b0_1 : List (List Int)) (b0_2 : List Int) (b0_3 : List (List Int)) (r1 : List K9q) : Option knot_Run_L0X :=
 bif decide (s40 < s39) then (bif boundOk s40 r1.length then ((row_Drop k s7 (r1.getD s40.toNat (0, 0, 0, 0, 0, 0, 0)).1).bind fun x4 =>
   rec x4.1 s39 (w64 (s40 + 1)) b0_0 b0_1 b0_2 b0_3 r1)
  else none)
 else some (s7, b0_0, b0_1, b0_2, b0_3, r1)
def knot_Run_L0 (k : Nat) : Nat → knot_Run_L0T
 | 0, _, _, _, _, _, _, _, _ => none
 | n + 1, s7, s39, s40, b0_0, b0_1, b0_2, b0_3, r1 => knot_Run_L0b k (knot_Run_L0 k n) s7 s39 s40 b0_0 b0_1 b0_2 b0_3 r1
def knot_Run (k : Nat) (a0Accts : List K10q) (a0Bil : List (List Int)) (a0Mul : List Int) (a0Pos : List (List Int)) (a1 : List K9q) (a2 : Int) : Option K12q :=
 (knot_Most k a0Accts a0Bil a0Mul a0Pos a1 a2).bind fun x0 =>
 (view_Ready k a1 a2).bind fun x1 =>
 (view_Heads k x1 x0.1).bind fun x2 =>
 (post_Post k a0Accts a0Bil a0Mul a0Pos x2).bind fun x3 =>
 bif !(decide (x3.2.2.2.2 = 0)) then some (a0Accts, a0Bil, a0Mul, a0Pos, a1, [])
 else (knot_Run_L0 k k a1 (x2.length : Int) 0 x3.1 x3.2.1 x3.2.2.1 x3.2.2.2.1 x2).bind fun z =>
 some (j1_4 z (z.1, z.2.2.2.2.2))
def settle_Run (k : Nat) (a0Accts : List K10q) (a0Bil : List (List Int)) (a0Mul : List Int) (a0Pos : List (List Int)) (a1 : List K9q) (a2 : Int) (a3 : Bool) : Option K12q :=
 (settle_some k a0Accts a0Bil a0Mul a0Pos a1 a2).bind fun x0 =>
 bif !a3 then some (x0.1, x0.2.1, x0.2.2.1, x0.2.2.2.1, x0.2.2.2.2.1, x0.2.2.2.2.2)
 else (knot_Run k x0.1 x0.2.1 x0.2.2.1 x0.2.2.2.1 x0.2.2.2.2.1 a2).bind fun x1 =>
 bif decide ((x1.2.2.2.2.2.length : Int) = 0) then some (j0_5 x1 x0.2.2.2.2.2)
 else (settle_some k x1.1 x1.2.1 x1.2.2.1 x1.2.2.2.1 x1.2.2.2.2.1 a2).bind fun x2 =>
 bif roomB (x0.2.2.2.2.2.length + x1.2.2.2.2.2.length) 56 then (bif roomB ((x0.2.2.2.2.2 ++ x1.2.2.2.2.2).length + x2.2.2.2.2.2.length) 56 then (let y0 : List K9q := ((x0.2.2.2.2.2 ++ x1.2.2.2.2.2) ++ x2.2.2.2.2.2)
   some (j0_5 x2 y0))
  else none)
 else none
abbrev hour_Told_L1X : Type := (List K9q) × Int × Int × (List K8q)
abbrev hour_Told_L1T : Type := List K9q → Int → Int → Int → Int → List K8q → Int → Int → Int → Int → Int → Int → Int → List Int → Option hour_Told_L1X
def hour_Told_L1b (k : Nat) (rec : hour_Told_L1T) (s8 : List K9q) (s9 s10 s19 s20 : Int) (r0 : List K8q) (b1_0 b1_1 b1_2 b1_3 b1_4 b1_5 b1_6 : Int) (r2 : List Int) : Option hour_Told_L1X :=
 bif decide (s20 < s19) then (bif boundOk s20 r2.length then ((hour_out k (r2.getD s20.toNat 0) 18 [b1_0, b1_1, b1_2, b1_3]).bind fun x0 =>
   bif roomB (r0.length + 1) 64 then (rec s8 s9 s10 s19 (w64 (s20 + 1)) (r0 ++ [x0]) b1_0 b1_1 b1_2 b1_3 b1_4 b1_5 b1_6 r2)
   else none)
  else none)
 else some (s8, s9, s10, r0)
def hour_Told_L1 (k : Nat) : Nat → hour_Told_L1T
 | 0, _, _, _, _, _, _, _, _, _, _, _, _, _, _ => none
 | n + 1, s8, s9, s10, s19, s20, r0, b1_0, b1_1, b1_2, b1_3, b1_4, b1_5, b1_6, r2 => hour_Told_L1b k (hour_Told_L1 k n) s8 s9 s10 s19 s20 r0 b1_0 b1_1 b1_2 b1_3 b1_4 b1_5 b1_6 r2
abbrev hour_Told_L0X : Type := List K8q
abbrev hour_Told_L0T : Type := List K9q → Int → Int → List K8q → Option hour_Told_L0X
def hour_Told_L0b (k : Nat) (rec : hour_Told_L0T) (s8 : List K9q) (s9 s10 : Int) (r0 : List K8q) : Option hour_Told_L0X :=
 bif decide (s10 < s9) then (bif boundOk s10 s8.length then ((hour_Told_L1 k k s8 s9 s10 2 0 r0 (s8.getD s10.toNat (0, 0, 0, 0, 0, 0, 0)).1 (s8.getD s10.toNat (0, 0, 0, 0, 0, 0, 0)).2.1 (s8.getD s10.toNat (0, 0, 0, 0, 0, 0, 0)).2.2.1 (s8.getD s10.toNat (0, 0, 0, 0, 0, 0, 0)).2.2.2.1 (s8.getD s10.toNat (0, 0, 0, 0, 0, 0, 0)).2.2.2.2.1 (s8.getD s10.toNat (0, 0, 0, 0, 0, 0, 0)).2.2.2.2.2.1 (s8.getD s10.toNat (0, 0, 0, 0, 0, 0, 0)).2.2.2.2.2.2 [(s8.getD s10.toNat (0, 0, 0, 0, 0, 0, 0)).2.1, (s8.getD s10.toNat (0, 0, 0, 0, 0, 0, 0)).2.2.1]).bind fun z =>
   rec z.1 z.2.1 (w64 (z.2.2.1 + 1)) z.2.2.2)
  else none)
 else some r0
def hour_Told_L0 (k : Nat) : Nat → hour_Told_L0T
 | 0, _, _, _, _ => none
 | n + 1, s8, s9, s10, r0 => hour_Told_L0b k (hour_Told_L0 k n) s8 s9 s10 r0
def hour_Told (k : Nat) (a0 : List K9q) : Option (List K8q) :=
 (hour_Told_L0 k k a0 (a0.length : Int) 0 []).bind fun z1 =>
 some z1
def hour_Settle (k : Nat) (a0Tick : Int) (a0BooksAccts : List K10q) (a0BooksBil : List (List Int)) (a0BooksMul : List Int) (a0BooksPos : List (List Int)) (a0Prices : List Int) (a0Holds : List (List Int)) (a0Pays : List K9q) (a0IDs : List Int) (a0Total : Int) (a0Over a1 : Bool) : Option K16q :=
 (settle_Run k a0BooksAccts a0BooksBil a0BooksMul a0BooksPos a0Pays a0Tick a1).bind fun x0 =>
 (hour_Told k x0.2.2.2.2.2).bind fun x1 =>
 some (a0Tick, (j0_4 x0 (a0Prices, a0Holds, x0.2.2.2.2.1, a0IDs, a0Total, a0Over, x1)))
abbrev hour_Tick_L0X : Type := Int × (List K11q) × Int × Int × Int × Int × (List K10q) × (List (List Int)) × (List Int) × (List (List Int)) × (List Int) × (List (List Int)) × (List K9q) × (List Int) × Int × Bool × Int × Int × Bool × (List K8q) × (List K9q)
abbrev hour_Tick_L0T : Type := List K9q → Int → Int → Int → List K11q → Int → Int → Int → Int → List K10q → List (List Int) → List Int → List (List Int) → List Int → List (List Int) → List K9q → List Int → Int → Bool → Int → Int → Bool → List K8q → List K9q → Option hour_Tick_L0X
def hour_Tick_L0b (k : Nat) (rec : hour_Tick_L0T) (s27 : List K9q) (s28 s29 b0_0 : Int) (b0_1 : List K11q) (b0_2 b0_3 b0_4 b1_0 : Int) (b1_1 : List K10q) (b1_2 : List (List Int)) (b1_3 : List Int) (b1_4 : List (List Int)) (b1_5 : List Int) (b1_6 : List (List Int)) (b1_7 : List K9q) (b1_8 : List Int) (b1_9 : Int) (b1_10 : Bool) (b2_0 b2_9 : Int) (b2_10 : Bool) (r3 : List K8q) (r4 : List K9q) : Option hour_Tick_L0X :=
 bif decide (s29 < s28) then (bif boundOk s29 s27.length then ((pay_Late k (s27.getD s29.toNat (0, 0, 0, 0, 0, 0, 0)).1 (s27.getD s29.toNat (0, 0, 0, 0, 0, 0, 0)).2.1 (s27.getD s29.toNat (0, 0, 0, 0, 0, 0, 0)).2.2.1 (s27.getD s29.toNat (0, 0, 0, 0, 0, 0, 0)).2.2.2.1 (s27.getD s29.toNat (0, 0, 0, 0, 0, 0, 0)).2.2.2.2.1 (s27.getD s29.toNat (0, 0, 0, 0, 0, 0, 0)).2.2.2.2.2.1 (s27.getD s29.toNat (0, 0, 0, 0, 0, 0, 0)).2.2.2.2.2.2 b1_0).bind fun x2 =>
   bif x2 then ((hour_out k (s27.getD s29.toNat (0, 0, 0, 0, 0, 0, 0)).2.1 21 [(s27.getD s29.toNat (0, 0, 0, 0, 0, 0, 0)).1]).bind fun x3 =>
    bif roomB (r3.length + 1) 64 then (rec s27 s28 (w64 (s29 + 1)) b0_0 b0_1 b0_2 b0_3 b0_4 b1_0 b1_1 b1_2 b1_3 b1_4 b1_5 b1_6 b1_7 b1_8 b1_9 b1_10 b2_0 b2_9 b2_10 (r3 ++ [x3]) r4)
    else none)
   else bif roomB (r4.length + 1) 56 then (let y0 : List K9q := (r4 ++ [(s27.getD s29.toNat (0, 0, 0, 0, 0, 0, 0))])
    rec s27 s28 (w64 (s29 + 1)) b0_0 b0_1 b0_2 b0_3 b0_4 b1_0 b1_1 b1_2 b1_3 b1_4 b1_5 b1_6 b1_7 b1_8 b1_9 b1_10 b2_0 b2_9 b2_10 r3 y0)
   else none)
  else none)
 else some (b0_0, b0_1, b0_2, b0_3, b0_4, b1_0, b1_1, b1_2, b1_3, b1_4, b1_5, b1_6, b1_7, b1_8, b1_9, b1_10, b2_0, b2_9, b2_10, r3, r4)
def hour_Tick_L0 (k : Nat) : Nat → hour_Tick_L0T
 | 0, _, _, _, _, _, _, _, _, _, _, _, _, _, _, _, _, _, _, _, _, _, _, _, _ => none
 | n + 1, s27, s28, s29, b0_0, b0_1, b0_2, b0_3, b0_4, b1_0, b1_1, b1_2, b1_3, b1_4, b1_5, b1_6, b1_7, b1_8, b1_9, b1_10, b2_0, b2_9, b2_10, r3, r4 => hour_Tick_L0b k (hour_Tick_L0 k n) s27 s28 s29 b0_0 b0_1 b0_2 b0_3 b0_4 b1_0 b1_1 b1_2 b1_3 b1_4 b1_5 b1_6 b1_7 b1_8 b1_9 b1_10 b2_0 b2_9 b2_10 r3 r4
def hour_Tick (k : Nat) (a0Parties : Int) (a0Assets : List K11q) (a0Cutoff a0Close a0Period a1Tick : Int) (a1BooksAccts : List K10q) (a1BooksBil : List (List Int)) (a1BooksMul : List Int) (a1BooksPos : List (List Int)) (a1Prices : List Int) (a1Holds : List (List Int)) (a1Pays : List K9q) (a1IDs : List Int) (a1Total : Int) (a1Over : Bool) : Option K16q :=
 bif a1Over then some (a1Tick, a1BooksAccts, a1BooksBil, a1BooksMul, a1BooksPos, a1Prices, a1Holds, a1Pays, a1IDs, a1Total, a1Over, [])
 else (day_Closes k a0Parties a0Assets a0Cutoff a0Close a0Period (w64 (a1Tick + 1))).bind fun x0 =>
 bif x0 then ((hour_ends k (w64 (a1Tick + 1)) a1BooksAccts a1BooksBil a1BooksMul a1BooksPos a1Prices a1Holds a1Pays a1IDs a1Total a1Over).bind fun x1 =>
  some (x1.1, x1.2.1, x1.2.2.1, x1.2.2.2.1, x1.2.2.2.2.1, x1.2.2.2.2.2.1, x1.2.2.2.2.2.2.1, x1.2.2.2.2.2.2.2.1, x1.2.2.2.2.2.2.2.2.1, x1.2.2.2.2.2.2.2.2.2.1, x1.2.2.2.2.2.2.2.2.2.2.1, x1.2.2.2.2.2.2.2.2.2.2.2))
 else (hour_Tick_L0 k k a1Pays (a1Pays.length : Int) 0 a0Parties a0Assets a0Cutoff a0Close a0Period (w64 (a1Tick + 1)) a1BooksAccts a1BooksBil a1BooksMul a1BooksPos a1Prices a1Holds a1Pays a1IDs a1Total a1Over 0 0 false [] []).bind fun z =>
 (day_Solves k z.1 z.2.1 z.2.2.1 z.2.2.2.1 z.2.2.2.2.1 z.2.2.2.2.2.1).bind fun x4 =>
 (hour_Settle k z.2.2.2.2.2.1 z.2.2.2.2.2.2.1 z.2.2.2.2.2.2.2.1 z.2.2.2.2.2.2.2.2.1 z.2.2.2.2.2.2.2.2.2.1 z.2.2.2.2.2.2.2.2.2.2.1 z.2.2.2.2.2.2.2.2.2.2.2.1 z.2.2.2.2.2.2.2.2.2.2.2.2.2.2.2.2.2.2.2.2 z.2.2.2.2.2.2.2.2.2.2.2.2.2.1 z.2.2.2.2.2.2.2.2.2.2.2.2.2.2.1 z.2.2.2.2.2.2.2.2.2.2.2.2.2.2.2.1 x4).bind fun x5 =>
 bif roomB (z.2.2.2.2.2.2.2.2.2.2.2.2.2.2.2.2.2.2.2.1.length + x5.2.2.2.2.2.2.2.2.2.2.2.length) 64 then (let y1 : List K8q := (z.2.2.2.2.2.2.2.2.2.2.2.2.2.2.2.2.2.2.2.1 ++ x5.2.2.2.2.2.2.2.2.2.2.2)
  some (j0_11 x5 y1))
 else none
def core_desk_pays_v2 (k : Nat) (a0 : K20q) (a1 : (Int × Int × Int × Int × Int × Int)) : Option (Int × K18q) :=
 (core_in k a1.2.1 0 (w64 (a0.1 - 1))).bind fun x0 =>
 bif !x0 then some (1, (f0_17 a0 []))
 else (core_in k a1.2.2.2.1 1 3).bind fun x1 =>
 bif !x1 then some (1, (f0_17 a0 []))
 else (pay_Check k (g0_5 a0) a0.2.2.2.2.2.1 (a1.1, a0.2.2.2.2.2.2.2.2.2.2.2.2.2.2.2.2, a1.2)).bind fun x2 =>
 bif !(decide (x2 = 0)) then some (x2, (f0_17 a0 []))
 else (ids_Add k a0.2.2.2.2.2.2.2.2.2.2.2.2.2.1 a1.1).bind fun x3 =>
 bif !(decide (x3.2 = 0)) then some (x3.2, (f0_17 a0 []))
 else (row_Put k a0.2.2.2.2.2.2.2.2.2.2.2.2.1 (a1.1, a0.2.2.2.2.2.2.2.2.2.2.2.2.2.2.2.2, a1.2)).bind fun x4 =>
 bif !(decide (x4.2 = 0)) then some (x4.2, (f0_17 a0 []))
 else some (0, (j0_12 a0 (x4.1, x3.1, a0.2.2.2.2.2.2.2.2.2.2.2.2.2.2.1, a0.2.2.2.2.2.2.2.2.2.2.2.2.2.2.2.1, a0.2.2.2.2.2.2.2.2.2.2.2.2.2.2.2.2, [])))
def core_desk_waits_v2 (k : Nat) (a0 : K20q) (a1 : K9q) : Option (Int × K18q) :=
 (core_desk_mine k (f0_17 a0 []) a1.2.1).bind fun x0 =>
 bif !(decide (x0.2 = 0)) then some (x0.2, (f0_17 a0 []))
 else bif decide (a1.1 = 2) then ((row_Drop k a0.2.2.2.2.2.2.2.2.2.2.2.2.1 a1.2.1).bind fun x1 =>
  (core_desk_tells_v2 k (j0_12 a0 (x1.1, a0.2.2.2.2.2.2.2.2.2.2.2.2.2)) 20 [a1.2.1]).bind fun x2 =>
  some (x1.2.2.2.2.2.2.2.2, x2))
 else bif decide (a1.1 = 4) then ((core_in k a1.2.2.1 1 3).bind fun x3 =>
  bif !x3 then some (1, (f0_17 a0 []))
  else (day_May k (g0_5 a0) a0.2.2.2.2.2.1 a1.2.2.1).bind fun x4 =>
  bif !(decide (x4 = 0)) then some (x4, (f0_17 a0 []))
  else (row_Class k a0.2.2.2.2.2.2.2.2.2.2.2.2.1 a1.2.1 a1.2.2.1).bind fun x5 =>
  some (x5.2, (j0_12 a0 (x5.1, (f13_4 a0 [])))))
 else bif decide (a1.2.2.1 = 0) then ((row_Front k a0.2.2.2.2.2.2.2.2.2.2.2.2.1 a1.2.1).bind fun x6 =>
  some (x6.2, (j0_12 a0 (x6.1, (f13_4 a0 [])))))
 else bif decide (a1.2.2.1 = 1) then ((row_Back k a0.2.2.2.2.2.2.2.2.2.2.2.2.1 a1.2.1).bind fun x7 =>
  some (x7.2, (j0_12 a0 (x7.1, (f13_4 a0 [])))))
 else some (1, (f0_17 a0 []))
def core_desk_limits_v2 (k : Nat) (a0 : K20q) (a1 : K9q) : Option (Int × K18q) :=
 (lim_Copy k a0.2.2.2.2.2.2.1 a0.2.2.2.2.2.2.2.1 a0.2.2.2.2.2.2.2.2.1 a0.2.2.2.2.2.2.2.2.2.1).bind fun x0 =>
 bif decide (a1.1 = 5) then ((core_desk_isOther k (f0_17 a0 []) a1.2.1).bind fun x1 =>
  bif !x1 then some (1, (f0_17 a0 []))
  else (core_in k a1.2.2.1 (-1) 1152921504606846976).bind fun x2 =>
  bif !x2 then some (1, (f0_17 a0 []))
  else bif boundOk a0.2.2.2.2.2.2.2.2.2.2.2.2.2.2.2.2 x0.2.1.length then (bif boundOk a1.2.1 (x0.2.1.getD a0.2.2.2.2.2.2.2.2.2.2.2.2.2.2.2.2.toNat []).length then (let y0 : List (List Int) := (x0.2.1.set a0.2.2.2.2.2.2.2.2.2.2.2.2.2.2.2.2.toNat ((x0.2.1.getD a0.2.2.2.2.2.2.2.2.2.2.2.2.2.2.2.2.toNat []).set a1.2.1.toNat a1.2.2.1))
    some (0, (j0_6 a0 (x0.1, y0, x0.2.2.1, x0.2.2.2, (f10_7 a0 [])))))
   else none)
  else none)
 else bif decide (a1.1 = 6) then ((core_in k a1.2.1 (-1) 1152921504606846976).bind fun x3 =>
  bif !x3 then some (1, (f0_17 a0 []))
  else bif boundOk a0.2.2.2.2.2.2.2.2.2.2.2.2.2.2.2.2 x0.2.2.1.length then (let y1 : List Int := (x0.2.2.1.set a0.2.2.2.2.2.2.2.2.2.2.2.2.2.2.2.2.toNat a1.2.1)
   some (0, (j0_6 a0 (x0.1, x0.2.1, y1, x0.2.2.2, (f10_7 a0 [])))))
  else none)
 else (core_in k a1.2.1 0 1152921504606846976).bind fun x4 =>
 bif !x4 then some (1, (f0_17 a0 []))
 else bif boundOk a0.2.2.2.2.2.2.2.2.2.2.2.2.2.2.2.2 x0.1.length then (let y2 : List K10q := (x0.1.set a0.2.2.2.2.2.2.2.2.2.2.2.2.2.2.2.2.toNat ((x0.1.getD a0.2.2.2.2.2.2.2.2.2.2.2.2.2.2.2.2.toNat (0, 0, 0)).1, (x0.1.getD a0.2.2.2.2.2.2.2.2.2.2.2.2.2.2.2.2.toNat (0, 0, 0)).2.1, a1.2.1))
  some (0, (j0_6 a0 (y2, x0.2.1, x0.2.2.1, x0.2.2.2, (f10_7 a0 [])))))
 else none
def core_desk_holds_v2 (k : Nat) (a0 : K20q) (a1 a2 : Int) : Option (Int × K18q) :=
 (core_desk_isAsset k (f0_17 a0 []) a1).bind fun x0 =>
 bif !x0 then some (1, (f0_17 a0 []))
 else (core_in k a2 0 1099511627776).bind fun x1 =>
 bif !x1 then some (1, (f0_17 a0 []))
 else (slices_Clone_Rowint64_v2 k a0.2.2.2.2.2.2.2.2.2.2.2.1).bind fun x2 =>
 bif boundOk a0.2.2.2.2.2.2.2.2.2.2.2.2.2.2.2.2 x2.length then ((pool_Set k (x2.getD a0.2.2.2.2.2.2.2.2.2.2.2.2.2.2.2.2.toNat []) a1 a2).bind fun x3 =>
  bif boundOk a0.2.2.2.2.2.2.2.2.2.2.2.2.2.2.2.2 x2.length then (let y0 : List (List Int) := (x2.set a0.2.2.2.2.2.2.2.2.2.2.2.2.2.2.2.2.toNat x3)
   bif boundOk a0.2.2.2.2.2.2.2.2.2.2.2.2.2.2.2.2 y0.length then ((pool_Value k a0.2.1 a0.2.2.2.2.2.2.2.2.2.2.1 (y0.getD a0.2.2.2.2.2.2.2.2.2.2.2.2.2.2.2.2.toNat [])).bind fun x4 =>
    bif boundOk a0.2.2.2.2.2.2.2.2.2.2.2.2.2.2.2.2 a0.2.2.2.2.2.2.1.length then (bif !x4.2 then some (8, (f0_17 a0 []))
     else bif decide (x4.1 > 1152921504606846976) then some (8, (f0_17 a0 []))
     else bif decide (x4.1 < (a0.2.2.2.2.2.2.1.getD a0.2.2.2.2.2.2.2.2.2.2.2.2.2.2.2.2.toNat (0, 0, 0)).2.1) then (bif decide ((w64 ((a0.2.2.2.2.2.2.1.getD a0.2.2.2.2.2.2.2.2.2.2.2.2.2.2.2.2.toNat (0, 0, 0)).1 + x4.1)) < 0) then some (9, (f0_17 a0 []))
      else (lim_Copy k a0.2.2.2.2.2.2.1 a0.2.2.2.2.2.2.2.1 a0.2.2.2.2.2.2.2.2.1 a0.2.2.2.2.2.2.2.2.2.1).bind fun x5 =>
      bif boundOk a0.2.2.2.2.2.2.2.2.2.2.2.2.2.2.2.2 x5.1.length then (let y1 : List K10q := (x5.1.set a0.2.2.2.2.2.2.2.2.2.2.2.2.2.2.2.2.toNat ((x5.1.getD a0.2.2.2.2.2.2.2.2.2.2.2.2.2.2.2.2.toNat (0, 0, 0)).1, x4.1, (x5.1.getD a0.2.2.2.2.2.2.2.2.2.2.2.2.2.2.2.2.toNat (0, 0, 0)).2.2))
       some (0, (j0_6 a0 (y1, x5.2.1, x5.2.2.1, x5.2.2.2, a0.2.2.2.2.2.2.2.2.2.2.1, y0, (f12_5 a0 [])))))
      else none)
     else (lim_Copy k a0.2.2.2.2.2.2.1 a0.2.2.2.2.2.2.2.1 a0.2.2.2.2.2.2.2.2.1 a0.2.2.2.2.2.2.2.2.2.1).bind fun x6 =>
     bif boundOk a0.2.2.2.2.2.2.2.2.2.2.2.2.2.2.2.2 x6.1.length then (let y2 : List K10q := (x6.1.set a0.2.2.2.2.2.2.2.2.2.2.2.2.2.2.2.2.toNat ((x6.1.getD a0.2.2.2.2.2.2.2.2.2.2.2.2.2.2.2.2.toNat (0, 0, 0)).1, x4.1, (x6.1.getD a0.2.2.2.2.2.2.2.2.2.2.2.2.2.2.2.2.toNat (0, 0, 0)).2.2))
      some (0, (j0_6 a0 (y2, x6.2.1, x6.2.2.1, x6.2.2.2, a0.2.2.2.2.2.2.2.2.2.2.1, y0, (f12_5 a0 [])))))
     else none)
    else none)
   else none)
  else none)
 else none
def core_desk_moves_v2 (k : Nat) (a0 : K20q) (a1 a2 a3 : Int) : Option (Int × K18q) :=
 (core_in k a2 0 (w64 (a0.1 - 1))).bind fun x0 =>
 bif !x0 then some (1, (f0_17 a0 []))
 else (core_in k a3 1 1099511627776).bind fun x1 =>
 bif !x1 then some (1, (f0_17 a0 []))
 else bif boundOk a2 a0.2.2.2.2.2.2.1.length then ((acct_In k (a0.2.2.2.2.2.2.1.getD a2.toNat (0, 0, 0)) a3).bind fun x2 =>
  bif decide (a1 = 11) then ((acct_Out k (a0.2.2.2.2.2.2.1.getD a2.toNat (0, 0, 0)) a3 3).bind fun x3 =>
   (acct_Room k (a0.2.2.2.2.2.2.1.getD a2.toNat (0, 0, 0)) 3).bind fun x4 =>
   bif decide (x4 < a3) then some (9, (f0_17 a0 []))
   else bif decide ((w64 (a0.2.2.2.2.2.2.2.2.2.2.2.2.2.2.1 - a3)) < 0) then some (9, (f0_17 a0 []))
   else bif !(decide (x3.2 = 0)) then some (x3.2, (f0_17 a0 []))
   else bif decide ((w64 (a0.2.2.2.2.2.2.2.2.2.2.2.2.2.2.1 - a3)) > 1152921504606846976) then some (8, (f0_17 a0 []))
   else (lim_Copy k a0.2.2.2.2.2.2.1 a0.2.2.2.2.2.2.2.1 a0.2.2.2.2.2.2.2.2.1 a0.2.2.2.2.2.2.2.2.2.1).bind fun x5 =>
   bif boundOk a2 x5.1.length then some (0, (j0_6 a0 ((x5.1.set a2.toNat x3.1), x5.2.1, x5.2.2.1, x5.2.2.2, (j10_4 a0 ((w64 (a0.2.2.2.2.2.2.2.2.2.2.2.2.2.2.1 - a3)), a0.2.2.2.2.2.2.2.2.2.2.2.2.2.2.2.1, a0.2.2.2.2.2.2.2.2.2.2.2.2.2.2.2.2, [])))))
   else none)
  else bif !(decide (x2.2 = 0)) then some (x2.2, (f0_17 a0 []))
  else bif decide ((w64 (a0.2.2.2.2.2.2.2.2.2.2.2.2.2.2.1 + a3)) > 1152921504606846976) then some (8, (f0_17 a0 []))
  else (lim_Copy k a0.2.2.2.2.2.2.1 a0.2.2.2.2.2.2.2.1 a0.2.2.2.2.2.2.2.2.1 a0.2.2.2.2.2.2.2.2.2.1).bind fun x6 =>
  bif boundOk a2 x6.1.length then some (0, (j0_6 a0 ((x6.1.set a2.toNat x2.1), x6.2.1, x6.2.2.1, x6.2.2.2, (j10_4 a0 ((w64 (a0.2.2.2.2.2.2.2.2.2.2.2.2.2.2.1 + a3)), a0.2.2.2.2.2.2.2.2.2.2.2.2.2.2.2.1, a0.2.2.2.2.2.2.2.2.2.2.2.2.2.2.2.2, [])))))
  else none)
 else none
abbrev core_desk_price_v2_L0X : Type := (K20q × (List Int) × (List K10q) × (List (List Int)) × (List Int) × (List (List Int))) ⊕ (Int × K20q)
abbrev core_desk_price_v2_L0T : Type := List (List Int) → Int → Int → K20q → List Int → List K10q → List (List Int) → List Int → List (List Int) → Option core_desk_price_v2_L0X
def core_desk_price_v2_L0b (k : Nat) (rec : core_desk_price_v2_L0T) (s40 : List (List Int)) (s41 s42 : Int) (b0 : K20q) (r1 : List Int) (r3 : List K10q) (m4 : List (List Int)) (r5 : List Int) (m6 : List (List Int)) : Option core_desk_price_v2_L0X :=
 bif decide (s42 < s41) then (bif boundOk s42 s40.length then ((pool_Value k b0.2.1 r1 (s40.getD s42.toNat [])).bind fun x4 =>
   bif !x4.2 then some (.inr (8, b0))
   else bif decide (x4.1 > 1152921504606846976) then some (.inr (8, b0))
   else bif boundOk s42 r3.length then (let y0 : List K10q := (r3.set s42.toNat ((r3.getD s42.toNat (0, 0, 0)).1, x4.1, (r3.getD s42.toNat (0, 0, 0)).2.2))
    rec s40 s41 (w64 (s42 + 1)) b0 r1 y0 m4 r5 m6)
   else none)
  else none)
 else some (.inl (b0, r1, r3, m4, r5, m6))
def core_desk_price_v2_L0 (k : Nat) : Nat → core_desk_price_v2_L0T := rounds (fun _ _ _ _ _ _ _ _ _ => none) (core_desk_price_v2_L0b k)
def core_desk_price_v2 (k : Nat) (a0 : K20q) (a1 a2 : Int) : Option (Int × K18q) :=
 (core_desk_isAsset k (f0_17 a0 []) a1).bind fun x0 =>
 bif !x0 then some (1, (f0_17 a0 []))
 else (core_in k a2 0 1048576).bind fun x1 =>
 bif !x1 then some (1, (f0_17 a0 []))
 else (pool_Set k a0.2.2.2.2.2.2.2.2.2.2.1 a1 a2).bind fun x2 =>
 (lim_Copy k a0.2.2.2.2.2.2.1 a0.2.2.2.2.2.2.2.1 a0.2.2.2.2.2.2.2.2.1 a0.2.2.2.2.2.2.2.2.2.1).bind fun x3 =>
 (core_desk_price_v2_L0 k k a0.2.2.2.2.2.2.2.2.2.2.2.1 (a0.2.2.2.2.2.2.2.2.2.2.2.1.length : Int) 0 a0 x2 x3.1 x3.2.1 x3.2.2.1 x3.2.2.2).bind fun z =>
 match z with
 | .inl z1 => some (0, (j0_6 z1.1 (f2_4 z1 (z1.2.1, (f11_6 z1.1 [])))))
 | .inr z2 => some (f0_18 z2 [])
def core_desk_does_v2 (k : Nat) (a0 : K20q) (a1 : K9q) : Option (Int × K18q) :=
 bif decide (a1.1 = 1) then ((core_desk_pays_v2 k a0 a1.2).bind fun x0 =>
  some (x0.1, x0.2))
 else bif decide (a1.1 = 2) then ((core_desk_waits_v2 k a0 a1).bind fun x1 =>
  some (x1.1, x1.2))
 else bif decide (a1.1 = 3) then ((core_desk_waits_v2 k a0 a1).bind fun x2 =>
  some (x2.1, x2.2))
 else bif decide (a1.1 = 4) then ((core_desk_waits_v2 k a0 a1).bind fun x3 =>
  some (x3.1, x3.2))
 else bif decide (a1.1 = 5) then ((core_desk_limits_v2 k a0 a1).bind fun x4 =>
  some (x4.1, x4.2))
 else bif decide (a1.1 = 6) then ((core_desk_limits_v2 k a0 a1).bind fun x5 =>
  some (x5.1, x5.2))
 else bif decide (a1.1 = 7) then ((core_desk_limits_v2 k a0 a1).bind fun x6 =>
  some (x6.1, x6.2))
 else bif decide (a1.1 = 8) then ((core_desk_holds_v2 k a0 a1.2.1 a1.2.2.1).bind fun x7 =>
  some (x7.1, x7.2))
 else bif decide (a1.1 = 10) then ((core_desk_moves_v2 k a0 a1.1 a1.2.1 a1.2.2.1).bind fun x8 =>
  some (x8.1, x8.2))
 else bif decide (a1.1 = 11) then ((core_desk_moves_v2 k a0 a1.1 a1.2.1 a1.2.2.1).bind fun x9 =>
  some (x9.1, x9.2))
 else bif decide (a1.1 = 12) then ((core_desk_price_v2 k a0 a1.2.1 a1.2.2.1).bind fun x10 =>
  some (x10.1, x10.2))
 else some (0, (f0_17 a0 []))
def core_Do (k : Nat) (a0 : K21q) (a1 : K17q) (a2 : K8q) : Option (K17q × (List K8q) × Int) :=
 (core_may k a0 a1 a2).bind fun x0 =>
 bif !(decide (x0 = 0)) then some (a1, [], x0)
 else bif decide (a2.2.1 = 9) then ((core_query k a1 a2.1).bind fun x1 =>
  some (a1, x1, 0))
 else bif !(decide (a2.1 = (-1))) then ((core_desk_tells_v2 k (f0_5 a0 (f0_11 a1 a2.1)) 15 []).bind fun x2 =>
  (core_desk_does k x2 a2.2).bind fun x3 =>
  bif !(decide (x3.1 = 0)) then some (a1, [], x3.1)
  else bif decide (a2.2.1 = 14) then ((hour_Tick k a0.1 a0.2.1 a0.2.2.1 a0.2.2.2.1 a0.2.2.2.2 a1.1 a1.2.1 a1.2.2.1 a1.2.2.2.1 a1.2.2.2.2.1 a1.2.2.2.2.2.1 a1.2.2.2.2.2.2.1 a1.2.2.2.2.2.2.2.1 a1.2.2.2.2.2.2.2.2.1 a1.2.2.2.2.2.2.2.2.2.1 a1.2.2.2.2.2.2.2.2.2.2).bind fun x4 =>
   some ((g0_11 x4), x4.2.2.2.2.2.2.2.2.2.2.2, 0))
  else (hour_Settle k x3.2.2.2.2.2.2.1 x3.2.2.2.2.2.2.2.1 x3.2.2.2.2.2.2.2.2.1 x3.2.2.2.2.2.2.2.2.2.1 x3.2.2.2.2.2.2.2.2.2.2.1 x3.2.2.2.2.2.2.2.2.2.2.2.1 x3.2.2.2.2.2.2.2.2.2.2.2.2.1 x3.2.2.2.2.2.2.2.2.2.2.2.2.2.1 x3.2.2.2.2.2.2.2.2.2.2.2.2.2.2.1 x3.2.2.2.2.2.2.2.2.2.2.2.2.2.2.2.1 x3.2.2.2.2.2.2.2.2.2.2.2.2.2.2.2.2.1 (decide (a2.2.1 = 13))).bind fun x5 =>
  bif roomB (x3.2.2.2.2.2.2.2.2.2.2.2.2.2.2.2.2.2.2.length + x5.2.2.2.2.2.2.2.2.2.2.2.length) 64 then (let y0 : List K8q := (x3.2.2.2.2.2.2.2.2.2.2.2.2.2.2.2.2.2.2 ++ x5.2.2.2.2.2.2.2.2.2.2.2)
   bif decide (a2.2.1 = 1) then ((row_Find k x5.2.2.2.2.2.2.2.1 a2.2.2.1).bind fun x6 =>
    bif decide (x6 ≥ 0) then ((core_desk_tells_v3 k (j1_17 x3 y0) 19 [a2.2.2.1]).bind fun x7 =>
     some ((g0_11 x5), x7.2.2.2.2.2.2.2.2.2.2.2.2.2.2.2.2.2, 0))
    else some ((g0_11 x5), y0, 0))
   else some ((g0_11 x5), y0, 0))
  else none)
 else (core_desk_does_v2 k (f0_5 a0 (f0_11 a1 a2.1)) a2.2).bind fun x8 =>
 bif !(decide (x8.1 = 0)) then some (a1, [], x8.1)
 else bif decide (a2.2.1 = 14) then ((hour_Tick k a0.1 a0.2.1 a0.2.2.1 a0.2.2.2.1 a0.2.2.2.2 a1.1 a1.2.1 a1.2.2.1 a1.2.2.2.1 a1.2.2.2.2.1 a1.2.2.2.2.2.1 a1.2.2.2.2.2.2.1 a1.2.2.2.2.2.2.2.1 a1.2.2.2.2.2.2.2.2.1 a1.2.2.2.2.2.2.2.2.2.1 a1.2.2.2.2.2.2.2.2.2.2).bind fun x9 =>
  some ((g0_11 x9), x9.2.2.2.2.2.2.2.2.2.2.2, 0))
 else (hour_Settle k x8.2.2.2.2.2.2.1 x8.2.2.2.2.2.2.2.1 x8.2.2.2.2.2.2.2.2.1 x8.2.2.2.2.2.2.2.2.2.1 x8.2.2.2.2.2.2.2.2.2.2.1 x8.2.2.2.2.2.2.2.2.2.2.2.1 x8.2.2.2.2.2.2.2.2.2.2.2.2.1 x8.2.2.2.2.2.2.2.2.2.2.2.2.2.1 x8.2.2.2.2.2.2.2.2.2.2.2.2.2.2.1 x8.2.2.2.2.2.2.2.2.2.2.2.2.2.2.2.1 x8.2.2.2.2.2.2.2.2.2.2.2.2.2.2.2.2.1 (decide (a2.2.1 = 13))).bind fun x10 =>
 bif roomB (x8.2.2.2.2.2.2.2.2.2.2.2.2.2.2.2.2.2.2.length + x10.2.2.2.2.2.2.2.2.2.2.2.length) 64 then (let y1 : List K8q := (x8.2.2.2.2.2.2.2.2.2.2.2.2.2.2.2.2.2.2 ++ x10.2.2.2.2.2.2.2.2.2.2.2)
  bif decide (a2.2.1 = 1) then ((row_Find k x10.2.2.2.2.2.2.2.1 a2.2.2.1).bind fun x11 =>
   bif decide (x11 ≥ 0) then ((core_desk_tells_v3 k (j1_17 x8 y1) 19 [a2.2.2.1]).bind fun x12 =>
    some ((g0_11 x10), x12.2.2.2.2.2.2.2.2.2.2.2.2.2.2.2.2.2, 0))
   else some ((g0_11 x10), y1, 0))
  else some ((g0_11 x10), y1, 0))
 else none
def log_Log_Save (k : Nat) (a0_0 : K6q) (a0_1 : K2q) (a1 : List Int) : Option (Int × K6q × K2q) :=
 (log_saves k a0_1 (w64 (1 - a0_0.1)) (w64 (a0_0.2.1 + 1)) a1).bind fun x0 =>
 bif decide (x0.1 = 0) then some (x0.1, ((w64 (1 - a0_0.1)), (w64 (a0_0.2.1 + 1)), 0, false), x0.2)
 else some (x0.1, a0_0, x0.2)
def core_isHeld_fn1 (k : Nat) (a0 : Int) : Option Bool :=
 (core_in k a0 0 1048576).bind fun x0 =>
 some (!x0)
abbrev slices_IndexFunc_int64__core_isHeld_fn1_L0T : Type := List Int → Int → Int → Option (Unit ⊕ Int)
def slices_IndexFunc_int64__core_isHeld_fn1_L0b (k : Nat) (rec : slices_IndexFunc_int64__core_isHeld_fn1_L0T) (s0 : List Int) (s7 s8 : Int) : Option (Unit ⊕ Int) :=
 bif decide (s8 < s7) then (bif boundOk s8 s0.length then ((core_isHeld_fn1 k (s0.getD s8.toNat 0)).bind fun x0 =>
   bif x0 then some (.inr s8)
   else rec s0 s7 (w64 (s8 + 1)))
  else none)
 else some (.inl ())
def slices_IndexFunc_int64__core_isHeld_fn1_L0 (k : Nat) : Nat → slices_IndexFunc_int64__core_isHeld_fn1_L0T
 | 0, _, _, _ => none
 | n + 1, s0, s7, s8 => slices_IndexFunc_int64__core_isHeld_fn1_L0b k (slices_IndexFunc_int64__core_isHeld_fn1_L0 k n) s0 s7 s8
def slices_IndexFunc_int64__core_isHeld_fn1 (k : Nat) (a0 : List Int) : Option Int :=
 (slices_IndexFunc_int64__core_isHeld_fn1_L0 k k a0 (a0.length : Int) 0).bind fun z =>
 match z with
 | .inl z1 => some (-1)
 | .inr z2 => some z2
def slices_ContainsFunc_int64__core_isHeld_fn1 (k : Nat) (a0 : List Int) : Option Bool :=
 (slices_IndexFunc_int64__core_isHeld_fn1 k a0).bind fun x0 =>
 some (decide (x0 ≥ 0))
def core_isHeld_fn2 (k : Nat) (a0 : Int) : Option Bool :=
 some (decide (a0 > 1099511627776))
abbrev slices_IndexFunc_int64__core_isHeld_fn2_L0T : Type := List Int → Int → Int → Option (Unit ⊕ Int)
def slices_IndexFunc_int64__core_isHeld_fn2_L0b (k : Nat) (rec : slices_IndexFunc_int64__core_isHeld_fn2_L0T) (s0 : List Int) (s7 s8 : Int) : Option (Unit ⊕ Int) :=
 bif decide (s8 < s7) then (bif boundOk s8 s0.length then ((core_isHeld_fn2 k (s0.getD s8.toNat 0)).bind fun x0 =>
   bif x0 then some (.inr s8)
   else rec s0 s7 (w64 (s8 + 1)))
  else none)
 else some (.inl ())
def slices_IndexFunc_int64__core_isHeld_fn2_L0 (k : Nat) : Nat → slices_IndexFunc_int64__core_isHeld_fn2_L0T
 | 0, _, _, _ => none
 | n + 1, s0, s7, s8 => slices_IndexFunc_int64__core_isHeld_fn2_L0b k (slices_IndexFunc_int64__core_isHeld_fn2_L0 k n) s0 s7 s8
def slices_IndexFunc_int64__core_isHeld_fn2 (k : Nat) (a0 : List Int) : Option Int :=
 (slices_IndexFunc_int64__core_isHeld_fn2_L0 k k a0 (a0.length : Int) 0).bind fun z =>
 match z with
 | .inl z1 => some (-1)
 | .inr z2 => some z2
def slices_ContainsFunc_int64__core_isHeld_fn2 (k : Nat) (a0 : List Int) : Option Bool :=
 (slices_IndexFunc_int64__core_isHeld_fn2 k a0).bind fun x0 =>
 some (decide (x0 ≥ 0))
abbrev core_isHeld_L0T : Type := List (List Int) → Int → Int → K21q → K17q → Option (Unit ⊕ Bool)
def core_isHeld_L0b (k : Nat) (rec : core_isHeld_L0T) (s28 : List (List Int)) (s29 s30 : Int) (b0 : K21q) (b1 : K17q) : Option (Unit ⊕ Bool) :=
 bif decide (s30 < s29) then (bif boundOk s30 s28.length then ((pool_Value k b0.2.1 b1.2.2.2.2.2.1 (s28.getD s30.toNat [])).bind fun x1 =>
   bif !x1.2 then some (.inr false)
   else bif decide (x1.1 > 1152921504606846976) then some (.inr false)
   else bif boundOk s30 b1.2.1.length then (bif !(decide (x1.1 = (b1.2.1.getD s30.toNat (0, 0, 0)).2.1)) then some (.inr false)
    else (slices_ContainsFunc_int64__core_isHeld_fn2 k (s28.getD s30.toNat [])).bind fun x2 =>
    bif x2 then some (.inr false)
    else rec s28 s29 (w64 (s30 + 1)) b0 b1)
   else none)
  else none)
 else some (.inl ())
def core_isHeld_L0 (k : Nat) : Nat → core_isHeld_L0T := rounds (fun _ _ _ _ _ => none) (core_isHeld_L0b k)
def core_isHeld (k : Nat) (a0 : K21q) (a1 : K17q) : Option Bool :=
 bif !(decide ((a1.2.2.2.2.2.1.length : Int) = (a0.2.1.length : Int))) then some false
 else bif !(decide ((a1.2.2.2.2.2.2.1.length : Int) = a0.1)) then some false
 else (slices_ContainsFunc_int64__core_isHeld_fn1 k a1.2.2.2.2.2.1).bind fun x0 =>
 bif x0 then some false
 else (core_isHeld_L0 k k a1.2.2.2.2.2.2.1 (a1.2.2.2.2.2.2.1.length : Int) 0 a0 a1).bind fun z =>
 match z with
 | .inl z1 => some true
 | .inr z2 => some z2
abbrev slices_IsSortedFunc_Pay__row_order_L0T : Type := List K9q → Int → Option (Unit ⊕ Bool)
def slices_IsSortedFunc_Pay__row_order_L0b (k : Nat) (rec : slices_IsSortedFunc_Pay__row_order_L0T) (s0 : List K9q) (s5 : Int) : Option (Unit ⊕ Bool) :=
 bif decide (s5 > 0) then (bif boundOk s5 s0.length then (bif boundOk (w64 (s5 - 1)) s0.length then ((row_order k (s0.getD s5.toNat (0, 0, 0, 0, 0, 0, 0)).1 (s0.getD s5.toNat (0, 0, 0, 0, 0, 0, 0)).2.1 (s0.getD s5.toNat (0, 0, 0, 0, 0, 0, 0)).2.2.1 (s0.getD s5.toNat (0, 0, 0, 0, 0, 0, 0)).2.2.2.1 (s0.getD s5.toNat (0, 0, 0, 0, 0, 0, 0)).2.2.2.2.1 (s0.getD s5.toNat (0, 0, 0, 0, 0, 0, 0)).2.2.2.2.2.1 (s0.getD s5.toNat (0, 0, 0, 0, 0, 0, 0)).2.2.2.2.2.2 (s0.getD (w64 (s5 - 1)).toNat (0, 0, 0, 0, 0, 0, 0)).1 (s0.getD (w64 (s5 - 1)).toNat (0, 0, 0, 0, 0, 0, 0)).2.1 (s0.getD (w64 (s5 - 1)).toNat (0, 0, 0, 0, 0, 0, 0)).2.2.1 (s0.getD (w64 (s5 - 1)).toNat (0, 0, 0, 0, 0, 0, 0)).2.2.2.1 (s0.getD (w64 (s5 - 1)).toNat (0, 0, 0, 0, 0, 0, 0)).2.2.2.2.1 (s0.getD (w64 (s5 - 1)).toNat (0, 0, 0, 0, 0, 0, 0)).2.2.2.2.2.1 (s0.getD (w64 (s5 - 1)).toNat (0, 0, 0, 0, 0, 0, 0)).2.2.2.2.2.2).bind fun x0 =>
    bif decide (x0 < 0) then some (.inr false)
    else rec s0 (w64 (s5 - 1)))
   else none)
  else none)
 else some (.inl ())
def slices_IsSortedFunc_Pay__row_order_L0 (k : Nat) : Nat → slices_IsSortedFunc_Pay__row_order_L0T := rounds (fun _ _ => none) (slices_IsSortedFunc_Pay__row_order_L0b k)
def slices_IsSortedFunc_Pay__row_order (k : Nat) (a0 : List K9q) : Option Bool :=
 (slices_IsSortedFunc_Pay__row_order_L0 k k a0 (w64 ((a0.length : Int) - 1))).bind fun z =>
 match z with
 | .inl z1 => some true
 | .inr z2 => some z2
abbrev row_Is_L0X : Type := (List K9q) ⊕ Bool
abbrev row_Is_L0T : Type := List K9q → List K9q → Int → Int → Option row_Is_L0X
def row_Is_L0b (k : Nat) (rec : row_Is_L0T) (s0 s5 : List K9q) (s6 s7 : Int) : Option row_Is_L0X :=
 bif decide (s7 < s6) then (bif boundOk s7 s5.length then ((row_Find k s0 (s5.getD s7.toNat (0, 0, 0, 0, 0, 0, 0)).1).bind fun x0 =>
   bif !(decide (x0 = s7)) then some (.inr false)
   else rec s0 s5 s6 (w64 (s7 + 1)))
  else none)
 else some (.inl s0)
def row_Is_L0 (k : Nat) : Nat → row_Is_L0T
 | 0, _, _, _, _ => none
 | n + 1, s0, s5, s6, s7 => row_Is_L0b k (row_Is_L0 k n) s0 s5 s6 s7
def row_Is (k : Nat) (a0 : List K9q) : Option Bool :=
 (row_Is_L0 k k a0 a0 (a0.length : Int) 0).bind fun z =>
 match z with
 | .inl z1 => bif decide ((z1.length : Int) ≤ 40) then ((slices_IsSortedFunc_Pay__row_order k z1).bind fun x1 =>
   some x1)
  else some false
 | .inr z2 => some z2
abbrev ids_Is_L0T : Type := List Int → Int → List Int → Int → Int → Option ((List Int) ⊕ Bool)
def ids_Is_L0b (k : Nat) (rec : ids_Is_L0T) (s0 : List Int) (s3 : Int) (s6 : List Int) (s7 s8 : Int) : Option ((List Int) ⊕ Bool) :=
 bif decide (s8 < s7) then (bif boundOk s8 s6.length then (bif decide ((s6.getD s8.toNat 0) ≤ s3) then some (.inr false)
   else rec s0 (s6.getD s8.toNat 0) s6 s7 (w64 (s8 + 1)))
  else none)
 else some (.inl s0)
def ids_Is_L0 (k : Nat) : Nat → ids_Is_L0T := rounds (fun _ _ _ _ _ => none) (ids_Is_L0b k)
def ids_Is (k : Nat) (a0 : List Int) : Option Bool :=
 (ids_Is_L0 k k a0 0 a0 (a0.length : Int) 0).bind fun z =>
 match z with
 | .inl z1 => some (decide ((z1.length : Int) ≤ 200))
 | .inr z2 => some z2
def ids_Has (k : Nat) (a0 : List Int) (a1 : Int) : Option Bool :=
 (slices_BinarySearch_int64 k a0 a1).bind fun x0 =>
 some x0.2
def core_isWaiting_fn1 (k : Nat) (a0 : K9q) (a1 : K17q) : Option Bool :=
 (fits_May k a1.2.1 a1.2.2.1 a1.2.2.2.1 a1.2.2.2.2.1 a0.1 a0.2.1 a0.2.2.1 a0.2.2.2.1 a0.2.2.2.2.1 a0.2.2.2.2.2.1 a0.2.2.2.2.2.2).bind fun x0 =>
 bif !x0 then some true
 else bif decide (a0.2.2.2.2.2.1 < 0) then some true
 else (core_in k a0.2.2.2.2.2.2 a0.2.2.2.2.2.1 1048576).bind fun x1 =>
 bif !x1 then some true
 else (ids_Has k a1.2.2.2.2.2.2.2.2.1 a0.1).bind fun x2 =>
 some (!x2)
abbrev slices_IndexFunc_Pay__core_isWaiting_fn1_L0T : Type := List K9q → Int → Int → Int → List K10q → List (List Int) → List Int → List (List Int) → List Int → List (List Int) → List K9q → List Int → Int → Bool → Option (Unit ⊕ Int)
def slices_IndexFunc_Pay__core_isWaiting_fn1_L0b (k : Nat) (rec : slices_IndexFunc_Pay__core_isWaiting_fn1_L0T) (s0 : List K9q) (s7 s8 b0_0 : Int) (b0_1 : List K10q) (b0_2 : List (List Int)) (b0_3 : List Int) (b0_4 : List (List Int)) (b0_5 : List Int) (b0_6 : List (List Int)) (b0_7 : List K9q) (b0_8 : List Int) (b0_9 : Int) (b0_10 : Bool) : Option (Unit ⊕ Int) :=
 bif decide (s8 < s7) then (bif boundOk s8 s0.length then ((core_isWaiting_fn1 k (s0.getD s8.toNat (0, 0, 0, 0, 0, 0, 0)) (b0_0, b0_1, b0_2, b0_3, b0_4, b0_5, b0_6, b0_7, b0_8, b0_9, b0_10)).bind fun x0 =>
   bif x0 then some (.inr s8)
   else rec s0 s7 (w64 (s8 + 1)) b0_0 b0_1 b0_2 b0_3 b0_4 b0_5 b0_6 b0_7 b0_8 b0_9 b0_10)
  else none)
 else some (.inl ())
def slices_IndexFunc_Pay__core_isWaiting_fn1_L0 (k : Nat) : Nat → slices_IndexFunc_Pay__core_isWaiting_fn1_L0T
 | 0, _, _, _, _, _, _, _, _, _, _, _, _, _, _ => none
 | n + 1, s0, s7, s8, b0_0, b0_1, b0_2, b0_3, b0_4, b0_5, b0_6, b0_7, b0_8, b0_9, b0_10 => slices_IndexFunc_Pay__core_isWaiting_fn1_L0b k (slices_IndexFunc_Pay__core_isWaiting_fn1_L0 k n) s0 s7 s8 b0_0 b0_1 b0_2 b0_3 b0_4 b0_5 b0_6 b0_7 b0_8 b0_9 b0_10
def slices_IndexFunc_Pay__core_isWaiting_fn1 (k : Nat) (a0 : List K9q) (a1_0Tick : Int) (a1_0BooksAccts : List K10q) (a1_0BooksBil : List (List Int)) (a1_0BooksMul : List Int) (a1_0BooksPos : List (List Int)) (a1_0Prices : List Int) (a1_0Holds : List (List Int)) (a1_0Pays : List K9q) (a1_0IDs : List Int) (a1_0Total : Int) (a1_0Over : Bool) : Option Int :=
 (slices_IndexFunc_Pay__core_isWaiting_fn1_L0 k k a0 (a0.length : Int) 0 a1_0Tick a1_0BooksAccts a1_0BooksBil a1_0BooksMul a1_0BooksPos a1_0Prices a1_0Holds a1_0Pays a1_0IDs a1_0Total a1_0Over).bind fun z =>
 match z with
 | .inl z1 => some (-1)
 | .inr z2 => some z2
def slices_ContainsFunc_Pay__core_isWaiting_fn1 (k : Nat) (a0 : List K9q) (a1_0Tick : Int) (a1_0BooksAccts : List K10q) (a1_0BooksBil : List (List Int)) (a1_0BooksMul : List Int) (a1_0BooksPos : List (List Int)) (a1_0Prices : List Int) (a1_0Holds : List (List Int)) (a1_0Pays : List K9q) (a1_0IDs : List Int) (a1_0Total : Int) (a1_0Over : Bool) : Option Bool :=
 (slices_IndexFunc_Pay__core_isWaiting_fn1 k a0 a1_0Tick a1_0BooksAccts a1_0BooksBil a1_0BooksMul a1_0BooksPos a1_0Prices a1_0Holds a1_0Pays a1_0IDs a1_0Total a1_0Over).bind fun x0 =>
 some (decide (x0 ≥ 0))
def core_isWaiting (k : Nat) (a0 : K17q) : Option Bool :=
 (row_Is k a0.2.2.2.2.2.2.2.1).bind fun x0 =>
 bif x0 then ((ids_Is k a0.2.2.2.2.2.2.2.2.1).bind fun x1 =>
  bif x1 then ((slices_ContainsFunc_Pay__core_isWaiting_fn1 k a0.2.2.2.2.2.2.2.1 a0.1 a0.2.1 a0.2.2.1 a0.2.2.2.1 a0.2.2.2.2.1 a0.2.2.2.2.2.1 a0.2.2.2.2.2.2.1 a0.2.2.2.2.2.2.2.1 a0.2.2.2.2.2.2.2.2.1 a0.2.2.2.2.2.2.2.2.2.1 a0.2.2.2.2.2.2.2.2.2.2).bind fun x2 =>
   some (!x2))
  else some false)
 else some false
abbrev core_Is_L0X : Type := K21q × K17q × (List Int)
abbrev core_Is_L0T : Type := List K10q → Int → Int → K21q → K17q → List Int → Option core_Is_L0X
def core_Is_L0b (k : Nat) (rec : core_Is_L0T) (s44 : List K10q) (s45 s46 : Int) (b0 : K21q) (b1 : K17q) (r2 : List Int) : Option core_Is_L0X :=
 bif decide (s46 < s45) then (bif boundOk s46 s44.length then (bif roomB (r2.length + 1) 8 then (rec s44 s45 (w64 (s46 + 1)) b0 b1 (r2 ++ [(s44.getD s46.toNat (0, 0, 0)).1]))
   else none)
  else none)
 else some (b0, b1, r2)
def core_Is_L0 (k : Nat) : Nat → core_Is_L0T := rounds (fun _ _ _ _ _ _ => none) (core_Is_L0b k)
def core_Is (k : Nat) (a0 : K21q) (a1 : K17q) : Option Bool :=
 (core_in k a1.1 0 a0.2.2.2.1).bind fun x0 =>
 bif !x0 then some false
 else (lim_Is k a1.2.1 a1.2.2.1 a1.2.2.2.1 a1.2.2.2.2.1).bind fun x1 =>
 bif !x1 then some false
 else bif !(decide ((a1.2.1.length : Int) = a0.1)) then some false
 else (core_isHeld k a0 a1).bind fun x2 =>
 bif !x2 then some false
 else (core_isWaiting k a1).bind fun x3 =>
 bif !x3 then some false
 else (core_Is_L0 k k a1.2.1 (a1.2.1.length : Int) 0 a0 a1 []).bind fun z =>
 (cash_Sum k z.2.2).bind fun x4 =>
 bif !x4.2 then some false
 else bif !(decide (x4.1 = z.2.1.2.2.2.2.2.2.2.2.2.1)) then some false
 else (core_in k x4.1 0 1152921504606846976).bind fun x5 =>
 bif !x5 then some false
 else (day_Closes k z.1.1 z.1.2.1 z.1.2.2.1 z.1.2.2.2.1 z.1.2.2.2.2 z.2.1.1).bind fun x6 =>
 bif eqBool z.2.1.2.2.2.2.2.2.2.2.2.2 x6 then (bif !z.2.1.2.2.2.2.2.2.2.2.2.2 then some true
  else some (decide ((z.2.1.2.2.2.2.2.2.2.1.length : Int) = 0)))
 else some false
abbrev gate_Open_L0X : Type := Int × Bool × K7q × (List Int) × (List Int) × K21q × K6q × K17q
abbrev gate_Open_L0T : Type := Int → Bool → List (List Int) → Int → Int → K7q → List Int → List Int → K21q → K6q → K17q → Option gate_Open_L0X
def gate_Open_L0b (k : Nat) (rec : gate_Open_L0T) (s2 : Int) (s12 : Bool) (s72 : List (List Int)) (s73 s74 : Int) (b0 : K7q) (r1 r2 : List Int) (b3 : K21q) (b4 : K6q) (b5 : K17q) : Option gate_Open_L0X :=
 bif decide (s74 < s73) then (bif boundOk s74 s72.length then ((msg_ReadCmd k (s72.getD s74.toNat [])).bind fun x8 =>
   bif decide (x8.2 = 0) then ((core_Do k b3 b5 x8.1).bind fun x9 =>
    rec s2 s12 s72 s73 (w64 (s74 + 1)) b0 r1 r2 b3 b4 x9.1)
   else rec s2 s12 s72 s73 (w64 (s74 + 1)) b0 r1 r2 b3 b4 b5)
  else none)
 else some (s2, s12, b0, r1, r2, b3, b4, b5)
def gate_Open_L0 (k : Nat) : Nat → gate_Open_L0T := rounds (fun _ _ _ _ _ _ _ _ _ _ _ => none) (gate_Open_L0b k)
def gate_Open (k : Nat) (a0 : K21q) (a1 : K2q) (a2 : Int) : Option ((Int × K2q × K19q × K6q) ⊕ (Int × K2q)) :=
 (day_Is k a0).bind fun x0 =>
 bif !x0 then some (.inr (1, a1))
 else bif decide (a2 < 1) then some (.inr (1, a1))
 else bif decide (a2 > 1000) then some (.inr (1, a1))
 else (log_Look k a1).bind fun x1 =>
 (core_New k a0).bind fun x2 =>
 (snap_Bytes k x2).bind fun x3 =>
 (log_Open k a1 x3).bind fun x4 =>
 match x4 with
 | .inl x5 => bif !(decide (x5.2.2.1 = 0)) then some (.inr (x5.2.2.1, x5.2.2.2.1))
  else (snap_Read k x5.1).bind fun x6 =>
  bif !x6.2 then ((core_New k a0).bind fun x7 =>
   (gate_Open_L0 k k a2 x1.2.2.2.2 x5.2.1 (x5.2.1.length : Int) 0 (x5.2.2.2.1.1, x5.2.2.2.1.2.2.1, x5.2.2.2.1.2.2.2.2) x5.2.2.2.1.2.1 x5.2.2.2.1.2.2.2.1 a0 x5.2.2.2.2 x7).bind fun z =>
   bif z.2.1 then ((snap_Bytes k z.2.2.2.2.2.2.2).bind fun x10 =>
    (log_Log_Save k z.2.2.2.2.2.2.1 (z.2.2.1.1, z.2.2.2.1, z.2.2.1.2.1, z.2.2.2.2.1, z.2.2.1.2.2) x10).bind fun x11 =>
    bif !(decide (x11.1 = 0)) then some (.inr (x11.1, x11.2.2))
    else some (.inl (0, x11.2.2, (f0_5 z.2.2.2.2.2.1 (f7_11 z (z.1, false))), x11.2.1)))
   else some (.inl (0, (z.2.2.1.1, z.2.2.2.1, z.2.2.1.2.1, z.2.2.2.2.1, z.2.2.1.2.2), (f0_5 z.2.2.2.2.2.1 (f7_11 z (z.1, false))), z.2.2.2.2.2.2.1)))
  else (core_Is k a0 x6.1).bind fun x12 =>
  bif !x12 then ((core_New k a0).bind fun x13 =>
   (gate_Open_L0 k k a2 x1.2.2.2.2 x5.2.1 (x5.2.1.length : Int) 0 (x5.2.2.2.1.1, x5.2.2.2.1.2.2.1, x5.2.2.2.1.2.2.2.2) x5.2.2.2.1.2.1 x5.2.2.2.1.2.2.2.1 a0 x5.2.2.2.2 x13).bind fun z1 =>
   bif z1.2.1 then ((snap_Bytes k z1.2.2.2.2.2.2.2).bind fun x14 =>
    (log_Log_Save k z1.2.2.2.2.2.2.1 (z1.2.2.1.1, z1.2.2.2.1, z1.2.2.1.2.1, z1.2.2.2.2.1, z1.2.2.1.2.2) x14).bind fun x15 =>
    bif !(decide (x15.1 = 0)) then some (.inr (x15.1, x15.2.2))
    else some (.inl (0, x15.2.2, (f0_5 z1.2.2.2.2.2.1 (f7_11 z1 (z1.1, false))), x15.2.1)))
   else some (.inl (0, (z1.2.2.1.1, z1.2.2.2.1, z1.2.2.1.2.1, z1.2.2.2.2.1, z1.2.2.1.2.2), (f0_5 z1.2.2.2.2.2.1 (f7_11 z1 (z1.1, false))), z1.2.2.2.2.2.2.1)))
  else (gate_Open_L0 k k a2 x1.2.2.2.2 x5.2.1 (x5.2.1.length : Int) 0 (x5.2.2.2.1.1, x5.2.2.2.1.2.2.1, x5.2.2.2.1.2.2.2.2) x5.2.2.2.1.2.1 x5.2.2.2.1.2.2.2.1 a0 x5.2.2.2.2 x6.1).bind fun z2 =>
  bif z2.2.1 then ((snap_Bytes k z2.2.2.2.2.2.2.2).bind fun x16 =>
   (log_Log_Save k z2.2.2.2.2.2.2.1 (z2.2.2.1.1, z2.2.2.2.1, z2.2.2.1.2.1, z2.2.2.2.2.1, z2.2.2.1.2.2) x16).bind fun x17 =>
   bif !(decide (x17.1 = 0)) then some (.inr (x17.1, x17.2.2))
   else some (.inl (0, x17.2.2, (f0_5 z2.2.2.2.2.2.1 (f7_11 z2 (z2.1, false))), x17.2.1)))
  else some (.inl (0, (z2.2.2.1.1, z2.2.2.2.1, z2.2.2.1.2.1, z2.2.2.2.2.1, z2.2.2.1.2.2), (f0_5 z2.2.2.2.2.2.1 (f7_11 z2 (z2.1, false))), z2.2.2.2.2.2.2.1))
 | .inr x18 => bif !(decide (x18.2.2.1 = 0)) then some (.inr (x18.2.2.1, x18.2.2.2))
  else (snap_Read k x18.1).bind fun x19 =>
  bif !x19.2 then ((core_New k a0).bind fun x20 =>
   none)
  else (core_Is k a0 x19.1).bind fun x21 =>
  bif !x21 then ((core_New k a0).bind fun x22 =>
   none)
  else none
abbrev giroref10_Row_L0T : Type := Int → Int → Int → List Int → Option (List Int)
def giroref10_Row_L0b (k : Nat) (rec : giroref10_Row_L0T) (s0 s1 s6 : Int) (r0 : List Int) : Option (List Int) :=
 bif decide (s6 < s0) then (bif boundOk s6 r0.length then (rec s0 s1 (w64 (s6 + 1)) (r0.set s6.toNat s1))
  else none)
 else some r0
def giroref10_Row_L0 (k : Nat) : Nat → giroref10_Row_L0T
 | 0, _, _, _, _ => none
 | n + 1, s0, s1, s6, r0 => giroref10_Row_L0b k (giroref10_Row_L0 k n) s0 s1 s6 r0
def giroref10_Row (k : Nat) (a0 a1 : Int) : Option (List Int) :=
 bif decide (a0 < 0) then some []
 else bif decide (a0 > 6) then some []
 else bif makeOk a0 a0 8 then ((giroref10_Row_L0 k k a0 a1 0 (List.replicate a0.toNat (0 : Int))).bind fun z =>
  some z)
 else none
abbrev giroref10_Square_L0T : Type := Int → Int → Int → List (List Int) → Option (List (List Int))
def giroref10_Square_L0b (k : Nat) (rec : giroref10_Square_L0T) (s0 s1 s6 : Int) (m0 : List (List Int)) : Option (List (List Int)) :=
 bif decide (s6 < s0) then ((giroref10_Row k s0 s1).bind fun x0 =>
  bif roomB (m0.length + 1) 24 then (rec s0 s1 (w64 (s6 + 1)) (m0 ++ [x0]))
  else none)
 else some m0
def giroref10_Square_L0 (k : Nat) : Nat → giroref10_Square_L0T
 | 0, _, _, _, _ => none
 | n + 1, s0, s1, s6, m0 => giroref10_Square_L0b k (giroref10_Square_L0 k n) s0 s1 s6 m0
def giroref10_Square (k : Nat) (a0 a1 : Int) : Option (List (List Int)) :=
 bif decide (a0 < 0) then some []
 else bif decide (a0 > 6) then some []
 else (giroref10_Square_L0 k k a0 a1 0 []).bind fun z =>
 some z
abbrev giroref23_New_L0X : Type := Int × K21q × K5q × K5q × (List K10q) × (List (List Int)) × (List Int) × (List (List Int)) × (List Int)
abbrev giroref23_New_L0T : Type := Int → Int → K21q → K5q → K5q → List K10q → List (List Int) → List Int → List (List Int) → List Int → Option giroref23_New_L0X
def giroref23_New_L0b (k : Nat) (rec : giroref23_New_L0T) (s3 s5 : Int) (b0 : K21q) (b1 b2 : K5q) (r3 : List K10q) (m4 : List (List Int)) (r5 : List Int) (m6 : List (List Int)) (r7 : List Int) : Option giroref23_New_L0X :=
 bif decide (s5 < (b0.2.1.length : Int)) then (bif boundOk s5 b0.2.1.length then (bif roomB (r7.length + 1) 8 then (rec s3 (w64 (s5 + 1)) b0 b1 b2 r3 m4 r5 m6 (r7 ++ [(b0.2.1.getD s5.toNat (0, 0)).1]))
   else none)
  else none)
 else some (s3, b0, b1, b2, r3, m4, r5, m6, r7)
def giroref23_New_L0 (k : Nat) : Nat → giroref23_New_L0T := rounds (fun _ _ _ _ _ _ _ _ _ _ => none) (giroref23_New_L0b k)
abbrev giroref23_New_L1X : Type := K5q × K5q × (List K10q) × (List (List Int)) × (List Int) × (List (List Int)) × (List Int) × (List (List Int))
abbrev giroref23_New_L1T : Type := Int → Int → K21q → K5q → K5q → List K10q → List (List Int) → List Int → List (List Int) → List Int → List (List Int) → Option giroref23_New_L1X
def giroref23_New_L1b (k : Nat) (rec : giroref23_New_L1T) (s3 s6 : Int) (b0 : K21q) (b1 b2 : K5q) (r3 : List K10q) (m4 : List (List Int)) (r5 : List Int) (m6 : List (List Int)) (r7 : List Int) (m8 : List (List Int)) : Option giroref23_New_L1X :=
 bif decide (s6 < s3) then (bif makeOk (b0.2.1.length : Int) (b0.2.1.length : Int) 8 then (bif roomB (m8.length + 1) 24 then (rec s3 (w64 (s6 + 1)) b0 b1 b2 r3 m4 r5 m6 r7 (m8 ++ [(List.replicate b0.2.1.length (0 : Int))]))
   else none)
  else none)
 else some (b1, b2, r3, m4, r5, m6, r7, m8)
def giroref23_New_L1 (k : Nat) : Nat → giroref23_New_L1T := rounds (fun _ _ _ _ _ _ _ _ _ _ _ => none) (giroref23_New_L1b k)
def giroref23_New (k : Nat) (a0 : K21q) : Option K17q :=
 bif makeOk a0.1 a0.1 24 then ((giroref10_Square k a0.1 (-1)).bind fun x0 =>
  (giroref10_Row k a0.1 (-1)).bind fun x1 =>
  (giroref10_Square k a0.1 0).bind fun x2 =>
  (giroref23_New_L0 k k a0.1 0 a0 (0, 0, false) (0, 0, false) (List.replicate a0.1.toNat ((0, 0, 0) : Int × Int × Int)) x0 x1 x2 []).bind fun z =>
  (giroref23_New_L1 k k z.1 0 z.2.1 z.2.2.1 z.2.2.2.1 z.2.2.2.2.1 z.2.2.2.2.2.1 z.2.2.2.2.2.2.1 z.2.2.2.2.2.2.2.1 z.2.2.2.2.2.2.2.2 []).bind fun z1 =>
  some (z1.2.1.1, (f2_6 z1 ([], [], z1.2.1.2))))
 else none
def giroref3_Many (k : Nat) (a0 : Int) : Option Int :=
 bif decide (a0 < 0) then some (-1)
 else bif decide (a0 ≥ 24) then some (-1)
 else bif boundOk a0 24 then some (List.getD [(-1), 6, 1, 2, 2, 2, 1, 1, 2, 0, 2, 2, 2, 0, 0, 0, 1, 5, 4, 1, 1, 1, 1, 1] a0.toNat 0)
 else none
def gate_Gate_Down (k : Nat) (a0_0 : K19q) (a0_1 : K6q) (a0_2 : K2q) : Option (Bool × K19q × K6q × K2q) :=
 some (a0_0.2.2.2.2.2.2.2.2.2.2.2.2.2.2.2.2.2, a0_0, a0_1, a0_2)
def gate_wrong (k : Nat) (a0 a1 : Int) : Option (List K8q) :=
 some [(a0, 16, a1, 0, 0, 0, 0, 0)]
def msg_Bytes (k : Nat) (a0 : K9q) : Option (List Int) :=
 (msg_Is k a0).bind fun x0 =>
 bif !x0 then some []
 else (msg_Many k a0.1).bind fun x1 =>
 bif (decide (0 ≤ x1)) && (decide (x1 ≤ 6)) then ((word_Put k (slc [a0.2.1, a0.2.2.1, a0.2.2.2.1, a0.2.2.2.2.1, a0.2.2.2.2.2.1, a0.2.2.2.2.2.2] 0 (x1.toNat - 0))).bind fun x2 =>
  bif roomB (1 + x2.length) 1 then some ([(IntKind.wrap .u8 (a0.1))] ++ x2)
  else none)
 else none
def msg_Cmd (k : Nat) (a0 : K8q) : Option (List Int) :=
 (msg_Bytes k a0.2).bind fun x0 =>
 bif decide ((x0.length : Int) = 0) then some []
 else (word_Put k [a0.1]).bind fun x1 =>
 bif roomB (x1.length + x0.length) 1 then some (x1 ++ x0)
 else none
def log_Log_Add (k : Nat) (a0_0 : K6q) (a0_1 : K2q) (a1 : List Int) : Option (Int × K6q × K2q) :=
 (rec_Put k a1).bind fun x0 =>
 bif !x0.2 then some (10, a0_0, a0_1)
 else bif a0_0.2.2.2 then some (10, a0_0, a0_1)
 else (tape_Deck_Append k a0_1 a0_0.1 x0.1).bind fun x1 =>
 bif decide (x1.1 = 3) then some (10, a0_0, x1.2)
 else bif decide (x1.1 = 0) then ((tape_Deck_Sync k x1.2).bind fun x2 =>
  bif decide (x2.1 = 0) then some (x2.1, (a0_0.1, a0_0.2.1, (w64 (a0_0.2.2.1 + 1)), a0_0.2.2.2), x2.2)
  else some (x2.1, a0_0, x2.2))
 else bif decide (x1.1 = 0) then some (x1.1, (a0_0.1, a0_0.2.1, (w64 (a0_0.2.2.1 + 1)), a0_0.2.2.2), x1.2)
 else some (x1.1, a0_0, x1.2)
def gate_Gate_keeps (k : Nat) (a0_0 : K19q) (a0_1 : K6q) (a0_2 : K2q) (a1 : List Int) : Option (Int × K19q × K6q × K2q) :=
 (log_Log_Add k a0_1 a0_2 a1).bind fun x0 =>
 bif !(decide (x0.1 = 10)) then some (x0.1, a0_0, x0.2.1, x0.2.2)
 else (snap_Bytes k (g5_11 a0_0)).bind fun x1 =>
 (log_Log_Save k x0.2.1 x0.2.2 x1).bind fun x2 =>
 bif !(decide (x2.1 = 0)) then some (x2.1, a0_0, x2.2.1, x2.2.2)
 else (log_Log_Add k x2.2.1 x2.2.2 a1).bind fun x3 =>
 some (x3.1, a0_0, x3.2.1, x3.2.2)
def log_Log_Rows (k : Nat) (a0_0 : K6q) (a0_1 : K2q) : Option (Int × K6q × K2q) :=
 some (a0_0.2.2.1, a0_0, a0_1)
def gate_Gate_Do (k : Nat) (a0_0 : K19q) (a0_1 : K6q) (a0_2 : K2q) (a1 : Int) (a2 : List Int) : Option ((List K8q) × K19q × K6q × K2q) :=
 (gate_Gate_Down k a0_0 a0_1 a0_2).bind fun x0 =>
 bif x0.1 then some ([], x0.2.1, x0.2.2.1, x0.2.2.2)
 else (msg_Read k a2).bind fun x1 =>
 bif !(decide (x1.2 = 0)) then ((gate_wrong k a1 x1.2).bind fun x2 =>
  some (x2, x0.2.1, x0.2.2.1, x0.2.2.2))
 else (core_Do k (g0_5 x0.2.1) (g5_11 x0.2.1) (a1, x1.1)).bind fun x3 =>
 bif !(decide (x3.2.2 = 0)) then ((gate_wrong k a1 x3.2.2).bind fun x4 =>
  some (x4, x0.2.1, x0.2.2.1, x0.2.2.2))
 else bif decide (x1.1.1 = 9) then some (x3.2.1, x0.2.1, x0.2.2.1, x0.2.2.2)
 else (msg_Cmd k (a1, x1.1)).bind fun x5 =>
 (gate_Gate_keeps k x0.2.1 x0.2.2.1 x0.2.2.2 x5).bind fun x6 =>
 bif decide (x6.1 = 0) then ((log_Log_Rows k x6.2.2.1 x6.2.2.2).bind fun x7 =>
  bif decide (x7.1 ≥ x6.2.1.2.2.2.2.2.2.2.2.2.2.2.2.2.2.2.2.1) then ((snap_Bytes k x3.1).bind fun x8 =>
   (log_Log_Save k x7.2.1 x7.2.2 x8).bind fun x9 =>
   bif decide (x9.1 = 11) then some (x3.2.1, (j0_5 x6.2.1 (f0_11 x3.1 (x6.2.1.2.2.2.2.2.2.2.2.2.2.2.2.2.2.2.2.1, true))), x9.2.1, x9.2.2)
   else some (x3.2.1, (j0_5 x6.2.1 (f0_11 x3.1 x6.2.1.2.2.2.2.2.2.2.2.2.2.2.2.2.2.2.2)), x9.2.1, x9.2.2))
  else some (x3.2.1, (j0_5 x6.2.1 (f0_11 x3.1 x6.2.1.2.2.2.2.2.2.2.2.2.2.2.2.2.2.2.2)), x7.2.1, x7.2.2))
 else bif decide (x6.1 = 10) then ((gate_wrong k a1 10).bind fun x10 =>
  some (x10, x6.2.1, x6.2.2.1, x6.2.2.2))
 else some ([], (j0_17 x6.2.1 true), x6.2.2.1, x6.2.2.2)
def gate_Gate_Down_v2 (k : Nat) : Option Bool :=
 some true
def gate_Gate_Do_v2 (k : Nat) (a1 : Int) (a2 : List Int) : Option (List K8q) :=
 (gate_Gate_Down_v2 k).bind fun x0 =>
 bif x0 then some []
 else (msg_Read k a2).bind fun x1 =>
 bif !(decide (x1.2 = 0)) then ((gate_wrong k a1 x1.2).bind fun x2 =>
  some x2)
 else none
abbrev giroref3_Of_L0X : Type := Int × Int × Int × Int × Int × Int × Int × Int × Int × Int × Int × Int × Int × Int
abbrev giroref3_Of_L0T : Type := List Int → Int → Int → Int → Int → Int → Int → Int → Int → Int → Int → Int → Int → Int → Int → Int → Option giroref3_Of_L0X
def giroref3_Of_L0b (k : Nat) (rec : giroref3_Of_L0T) (s1 : List Int) (s6 b0_0 b0_1 b0_2 b0_3 b0_4 b0_5 b0_6 b1_0 b1_1 b1_2 b1_3 b1_4 b1_5 b1_6 : Int) : Option giroref3_Of_L0X :=
 bif decide (s6 < (s1.length : Int)) then (bif decide (s6 < 6) then (bif boundOk s6 s1.length then (bif decide (s6 = 0) then (rec s1 (w64 (s6 + 1)) b0_0 b0_1 b0_2 b0_3 b0_4 b0_5 b0_6 b1_0 (s1.getD s6.toNat 0) b1_2 b1_3 b1_4 b1_5 b1_6)
    else bif decide (s6 = 1) then (rec s1 (w64 (s6 + 1)) b0_0 b0_1 b0_2 b0_3 b0_4 b0_5 b0_6 b1_0 b1_1 (s1.getD s6.toNat 0) b1_3 b1_4 b1_5 b1_6)
    else bif decide (s6 = 2) then (rec s1 (w64 (s6 + 1)) b0_0 b0_1 b0_2 b0_3 b0_4 b0_5 b0_6 b1_0 b1_1 b1_2 (s1.getD s6.toNat 0) b1_4 b1_5 b1_6)
    else bif decide (s6 = 3) then (rec s1 (w64 (s6 + 1)) b0_0 b0_1 b0_2 b0_3 b0_4 b0_5 b0_6 b1_0 b1_1 b1_2 b1_3 (s1.getD s6.toNat 0) b1_5 b1_6)
    else bif decide (s6 = 4) then (rec s1 (w64 (s6 + 1)) b0_0 b0_1 b0_2 b0_3 b0_4 b0_5 b0_6 b1_0 b1_1 b1_2 b1_3 b1_4 (s1.getD s6.toNat 0) b1_6)
    else bif decide (s6 = 5) then (rec s1 (w64 (s6 + 1)) b0_0 b0_1 b0_2 b0_3 b0_4 b0_5 b0_6 b1_0 b1_1 b1_2 b1_3 b1_4 b1_5 (s1.getD s6.toNat 0))
    else none)
   else none)
  else some (b0_0, b0_1, b0_2, b0_3, b0_4, b0_5, b0_6, b1_0, b1_1, b1_2, b1_3, b1_4, b1_5, b1_6))
 else some (b0_0, b0_1, b0_2, b0_3, b0_4, b0_5, b0_6, b1_0, b1_1, b1_2, b1_3, b1_4, b1_5, b1_6)
def giroref3_Of_L0 (k : Nat) : Nat → giroref3_Of_L0T
 | 0, _, _, _, _, _, _, _, _, _, _, _, _, _, _, _, _ => none
 | n + 1, s1, s6, b0_0, b0_1, b0_2, b0_3, b0_4, b0_5, b0_6, b1_0, b1_1, b1_2, b1_3, b1_4, b1_5, b1_6 => giroref3_Of_L0b k (giroref3_Of_L0 k n) s1 s6 b0_0 b0_1 b0_2 b0_3 b0_4 b0_5 b0_6 b1_0 b1_1 b1_2 b1_3 b1_4 b1_5 b1_6
def giroref3_Of (k : Nat) (a0 : Int) (a1 : List Int) : Option K9q :=
 (giroref3_Of_L0 k k a1 0 0 0 0 0 0 0 0 a0 0 0 0 0 0 0).bind fun z =>
 some (z.2.2.2.2.2.2.2.1, z.2.2.2.2.2.2.2.2.1, z.2.2.2.2.2.2.2.2.2.1, z.2.2.2.2.2.2.2.2.2.2.1, z.2.2.2.2.2.2.2.2.2.2.2.1, z.2.2.2.2.2.2.2.2.2.2.2.2.1, z.2.2.2.2.2.2.2.2.2.2.2.2.2)
def gate_Gate_State (k : Nat) (a0_0 : K19q) (a0_1 : K6q) (a0_2 : K2q) : Option (K17q × K19q × K6q × K2q) :=
 some ((g5_11 a0_0), a0_0, a0_1, a0_2)
def gate_Gate_State_v2 (k : Nat) : Option K17q :=
 some (0, [], [], [], [], [], [], [], [], 0, false)
def tape_Deck_Read_v2 (k : Nat) (a1 : Int) : Option (List Int) :=
 some []
def log_held_v2 (k : Nat) (a1 : Int) : Option (Int × (List Int) × (List (List Int))) :=
 (tape_Deck_Read_v2 k a1).bind fun x0 =>
 (rec_Scan k x0).bind fun x1 =>
 bif decide ((x1.1.length : Int) = 0) then some (0, [], [])
 else bif boundOk 0 x1.1.length then (bif decide (((x1.1.getD 0 []).length : Int) < 8) then some (0, [], [])
  else bif boundOk 0 x1.1.length then (bif decide (8 ≤ ((x1.1.getD 0 []).length : Int)) then ((word_Get k (List.take 8 (x1.1.getD 0 []))).bind fun x2 =>
    bif boundOk 0 x2.1.length then (bif decide ((x2.1.getD 0 0) < 1) then some (0, [], [])
     else bif boundOk 0 x2.1.length then (bif decide ((x2.1.getD 0 0) > 4611686018427387904) then some (0, [], [])
      else bif boundOk 0 x2.1.length then (bif boundOk 0 x1.1.length then (bif decide (8 ≤ ((x1.1.getD 0 []).length : Int)) then (bif decide (1 ≤ (x1.1.length : Int)) then some ((x2.1.getD 0 0), (List.drop 8 (x1.1.getD 0 [])), (slc x1.1 1 (x1.1.length - 1)))
         else none)
        else none)
       else none)
      else none)
     else none)
    else none)
   else none)
  else none)
 else none
def log_Look_v2 (k : Nat) : Option (Int × Int × (List Int) × (List (List Int)) × Bool) :=
 (log_held_v2 k 0).bind fun x0 =>
 bif decide (x0.1 > 0) then ((log_held_v2 k 1).bind fun x1 =>
  bif decide (x1.1 > x0.1) then some (x1.1, 1, x1.2.1, x1.2.2, true)
  else some (x0.1, 0, x0.2.1, x0.2.2, true))
 else (log_held_v2 k 1).bind fun x2 =>
 bif decide (x2.1 > 0) then some (x2.1, 1, x2.2.1, x2.2.2, true)
 else some (0, 0, [], [], false)
def log_Open_v2 (k : Nat) (a1 : List Int) : Option ((List Int) × (List (List Int)) × Int) :=
 some ([], [], 11)
def log_Log_Save_v2 (k : Nat) (a1 : List Int) : Option Int :=
 some 11
abbrev gate_Open_v2_L0X : Type := Int × Bool × K21q × K17q
abbrev gate_Open_v2_L0T : Type := Int → Bool → Int → Int → K21q → K17q → List (List Int) → Option gate_Open_v2_L0X
def gate_Open_v2_L0b (k : Nat) (rec : gate_Open_v2_L0T) (s2 : Int) (s12 : Bool) (s73 s74 : Int) (b0 : K21q) (b1 : K17q) (r2 : List (List Int)) : Option gate_Open_v2_L0X :=
 bif decide (s74 < s73) then (bif boundOk s74 r2.length then ((msg_ReadCmd k (r2.getD s74.toNat [])).bind fun x7 =>
   bif decide (x7.2 = 0) then ((core_Do k b0 b1 x7.1).bind fun x8 =>
    rec s2 s12 s73 (w64 (s74 + 1)) b0 x8.1 r2)
   else rec s2 s12 s73 (w64 (s74 + 1)) b0 b1 r2)
  else none)
 else some (s2, s12, b0, b1)
def gate_Open_v2_L0 (k : Nat) : Nat → gate_Open_v2_L0T := rounds (fun _ _ _ _ _ _ _ => none) (gate_Open_v2_L0b k)
def gate_Open_v2 (k : Nat) (a0 : K21q) (a2 : Int) : Option Int :=
 (day_Is k a0).bind fun x0 =>
 bif !x0 then some 1
 else bif decide (a2 < 1) then some 1
 else bif decide (a2 > 1000) then some 1
 else (log_Look_v2 k).bind fun x1 =>
 (core_New k a0).bind fun x2 =>
 (snap_Bytes k x2).bind fun x3 =>
 (log_Open_v2 k x3).bind fun x4 =>
 bif !(decide (x4.2.2 = 0)) then some x4.2.2
 else (snap_Read k x4.1).bind fun x5 =>
 bif !x5.2 then ((core_New k a0).bind fun x6 =>
  (gate_Open_v2_L0 k k a2 x1.2.2.2.2 (x4.2.1.length : Int) 0 a0 x6 x4.2.1).bind fun z =>
  bif z.2.1 then ((snap_Bytes k z.2.2.2).bind fun x9 =>
   (log_Log_Save_v2 k x9).bind fun x10 =>
   bif !(decide (x10 = 0)) then some x10
   else none)
  else none)
 else (core_Is k a0 x5.1).bind fun x11 =>
 bif !x11 then ((core_New k a0).bind fun x12 =>
  (gate_Open_v2_L0 k k a2 x1.2.2.2.2 (x4.2.1.length : Int) 0 a0 x12 x4.2.1).bind fun z1 =>
  bif z1.2.1 then ((snap_Bytes k z1.2.2.2).bind fun x13 =>
   (log_Log_Save_v2 k x13).bind fun x14 =>
   bif !(decide (x14 = 0)) then some x14
   else none)
  else none)
 else (gate_Open_v2_L0 k k a2 x1.2.2.2.2 (x4.2.1.length : Int) 0 a0 x5.1 x4.2.1).bind fun z2 =>
 bif z2.2.1 then ((snap_Bytes k z2.2.2.2).bind fun x15 =>
  (log_Log_Save_v2 k x15).bind fun x16 =>
  bif !(decide (x16 = 0)) then some x16
  else none)
 else none
abbrev giroref2_Same_L0T : Type := List Int → List Int → Int → Option (Unit ⊕ Bool)
def giroref2_Same_L0b (k : Nat) (rec : giroref2_Same_L0T) (s0 s1 : List Int) (s5 : Int) : Option (Unit ⊕ Bool) :=
 bif decide (s5 < (s0.length : Int)) then (bif boundOk s5 s0.length then (bif boundOk s5 s1.length then (bif !(decide ((s0.getD s5.toNat 0) = (s1.getD s5.toNat 0))) then some (.inr false)
    else rec s0 s1 (w64 (s5 + 1)))
   else none)
  else none)
 else some (.inl ())
def giroref2_Same_L0 (k : Nat) : Nat → giroref2_Same_L0T
 | 0, _, _, _ => none
 | n + 1, s0, s1, s5 => giroref2_Same_L0b k (giroref2_Same_L0 k n) s0 s1 s5
def giroref2_Same (k : Nat) (a0 a1 : List Int) : Option Bool :=
 bif !(decide ((a0.length : Int) = (a1.length : Int))) then some false
 else (giroref2_Same_L0 k k a0 a1 0).bind fun z =>
 match z with
 | .inl z1 => some true
 | .inr z2 => some z2
abbrev giroref10_Rows_L0T : Type := List (List Int) → List (List Int) → Int → Option (Unit ⊕ Bool)
def giroref10_Rows_L0b (k : Nat) (rec : giroref10_Rows_L0T) (s0 s1 : List (List Int)) (s5 : Int) : Option (Unit ⊕ Bool) :=
 bif decide (s5 < (s0.length : Int)) then (bif boundOk s5 s0.length then (bif boundOk s5 s1.length then ((giroref2_Same k (s0.getD s5.toNat []) (s1.getD s5.toNat [])).bind fun x0 =>
    bif !x0 then some (.inr false)
    else rec s0 s1 (w64 (s5 + 1)))
   else none)
  else none)
 else some (.inl ())
def giroref10_Rows_L0 (k : Nat) : Nat → giroref10_Rows_L0T
 | 0, _, _, _ => none
 | n + 1, s0, s1, s5 => giroref10_Rows_L0b k (giroref10_Rows_L0 k n) s0 s1 s5
def giroref10_Rows (k : Nat) (a0 a1 : List (List Int)) : Option Bool :=
 bif !(decide ((a0.length : Int) = (a1.length : Int))) then some false
 else (giroref10_Rows_L0 k k a0 a1 0).bind fun z =>
 match z with
 | .inl z1 => some true
 | .inr z2 => some z2
abbrev giroref10_Same_L0T : Type := Int → List K10q → List (List Int) → List Int → List (List Int) → List K10q → List (List Int) → List Int → List (List Int) → Option (Unit ⊕ Bool)
def giroref10_Same_L0b (k : Nat) (rec : giroref10_Same_L0T) (s5 : Int) (b0_0 : List K10q) (b0_1 : List (List Int)) (b0_2 : List Int) (b0_3 : List (List Int)) (b1_0 : List K10q) (b1_1 : List (List Int)) (b1_2 : List Int) (b1_3 : List (List Int)) : Option (Unit ⊕ Bool) :=
 bif decide (s5 < (b0_0.length : Int)) then (bif boundOk s5 b0_0.length then (bif boundOk s5 b1_0.length then (bif !((decide ((b0_0.getD s5.toNat (0, 0, 0)).1 = (b1_0.getD s5.toNat (0, 0, 0)).1)) && ((decide ((b0_0.getD s5.toNat (0, 0, 0)).2.1 = (b1_0.getD s5.toNat (0, 0, 0)).2.1)) && (decide ((b0_0.getD s5.toNat (0, 0, 0)).2.2 = (b1_0.getD s5.toNat (0, 0, 0)).2.2)))) then some (.inr false)
    else rec (w64 (s5 + 1)) b0_0 b0_1 b0_2 b0_3 b1_0 b1_1 b1_2 b1_3)
   else none)
  else none)
 else some (.inl ())
def giroref10_Same_L0 (k : Nat) : Nat → giroref10_Same_L0T
 | 0, _, _, _, _, _, _, _, _, _ => none
 | n + 1, s5, b0_0, b0_1, b0_2, b0_3, b1_0, b1_1, b1_2, b1_3 => giroref10_Same_L0b k (giroref10_Same_L0 k n) s5 b0_0 b0_1 b0_2 b0_3 b1_0 b1_1 b1_2 b1_3
def giroref10_Same (k : Nat) (a0Accts : List K10q) (a0Bil : List (List Int)) (a0Mul : List Int) (a0Pos : List (List Int)) (a1Accts : List K10q) (a1Bil : List (List Int)) (a1Mul : List Int) (a1Pos : List (List Int)) : Option Bool :=
 bif !(decide ((a0Accts.length : Int) = (a1Accts.length : Int))) then some false
 else (giroref10_Rows k a0Bil a1Bil).bind fun x0 =>
 bif !x0 then some false
 else (giroref10_Rows k a0Pos a1Pos).bind fun x1 =>
 bif !x1 then some false
 else (giroref2_Same k a0Mul a1Mul).bind fun x2 =>
 bif !x2 then some false
 else (giroref10_Same_L0 k k 0 a0Accts a0Bil a0Mul a0Pos a1Accts a1Bil a1Mul a1Pos).bind fun z =>
 match z with
 | .inl z1 => some true
 | .inr z2 => some z2
abbrev giroref11_Same_L0T : Type := List K9q → List K9q → Int → Option (Unit ⊕ Bool)
def giroref11_Same_L0b (k : Nat) (rec : giroref11_Same_L0T) (s0 s1 : List K9q) (s5 : Int) : Option (Unit ⊕ Bool) :=
 bif decide (s5 < (s0.length : Int)) then (bif boundOk s5 s0.length then (bif boundOk s5 s1.length then (bif !((decide ((s0.getD s5.toNat (0, 0, 0, 0, 0, 0, 0)).1 = (s1.getD s5.toNat (0, 0, 0, 0, 0, 0, 0)).1)) && ((decide ((s0.getD s5.toNat (0, 0, 0, 0, 0, 0, 0)).2.1 = (s1.getD s5.toNat (0, 0, 0, 0, 0, 0, 0)).2.1)) && ((decide ((s0.getD s5.toNat (0, 0, 0, 0, 0, 0, 0)).2.2.1 = (s1.getD s5.toNat (0, 0, 0, 0, 0, 0, 0)).2.2.1)) && ((decide ((s0.getD s5.toNat (0, 0, 0, 0, 0, 0, 0)).2.2.2.1 = (s1.getD s5.toNat (0, 0, 0, 0, 0, 0, 0)).2.2.2.1)) && ((decide ((s0.getD s5.toNat (0, 0, 0, 0, 0, 0, 0)).2.2.2.2.1 = (s1.getD s5.toNat (0, 0, 0, 0, 0, 0, 0)).2.2.2.2.1)) && ((decide ((s0.getD s5.toNat (0, 0, 0, 0, 0, 0, 0)).2.2.2.2.2.1 = (s1.getD s5.toNat (0, 0, 0, 0, 0, 0, 0)).2.2.2.2.2.1)) && (decide ((s0.getD s5.toNat (0, 0, 0, 0, 0, 0, 0)).2.2.2.2.2.2 = (s1.getD s5.toNat (0, 0, 0, 0, 0, 0, 0)).2.2.2.2.2.2)))))))) then some (.inr false)
    else rec s0 s1 (w64 (s5 + 1)))
   else none)
  else none)
 else some (.inl ())
def giroref11_Same_L0 (k : Nat) : Nat → giroref11_Same_L0T
 | 0, _, _, _ => none
 | n + 1, s0, s1, s5 => giroref11_Same_L0b k (giroref11_Same_L0 k n) s0 s1 s5
def giroref11_Same (k : Nat) (a0 a1 : List K9q) : Option Bool :=
 bif !(decide ((a0.length : Int) = (a1.length : Int))) then some false
 else (giroref11_Same_L0 k k a0 a1 0).bind fun z =>
 match z with
 | .inl z1 => some true
 | .inr z2 => some z2
def giroref24_Same (k : Nat) (a0 a1 : K17q) : Option Bool :=
 bif decide (a0.1 = a1.1) then (bif decide (a0.2.2.2.2.2.2.2.2.2.1 = a1.2.2.2.2.2.2.2.2.2.1) then (bif eqBool a0.2.2.2.2.2.2.2.2.2.2 a1.2.2.2.2.2.2.2.2.2.2 then ((giroref10_Same k a0.2.1 a0.2.2.1 a0.2.2.2.1 a0.2.2.2.2.1 a1.2.1 a1.2.2.1 a1.2.2.2.1 a1.2.2.2.2.1).bind fun x0 =>
    bif x0 then ((giroref2_Same k a0.2.2.2.2.2.1 a1.2.2.2.2.2.1).bind fun x1 =>
     bif x1 then ((giroref10_Rows k a0.2.2.2.2.2.2.1 a1.2.2.2.2.2.2.1).bind fun x2 =>
      bif x2 then ((giroref11_Same k a0.2.2.2.2.2.2.2.1 a1.2.2.2.2.2.2.2.1).bind fun x3 =>
       bif x3 then ((giroref2_Same k a0.2.2.2.2.2.2.2.2.1 a1.2.2.2.2.2.2.2.2.1).bind fun x4 =>
        some x4)
       else some false)
      else some false)
     else some false)
    else some false)
   else some false)
  else some false)
 else some false
def giroref2_one_L0b (k : Nat) (rec : List Int → Int → Int → Option Int) (s0 : List Int) (s3 s4 : Int) : Option Int :=
 bif decide (s4 < 8) then (bif boundOk s4 s0.length then (rec s0 (bor .u64 (shl .u64 s3 8) (IntKind.wrap .u64 ((s0.getD s4.toNat 0)))) (w64 (s4 + 1)))
  else none)
 else some s3
def giroref2_one_L0 (k : Nat) : Nat → List Int → Int → Int → Option Int := rounds (fun _ _ _ => none) (giroref2_one_L0b k)
def giroref2_one (k : Nat) (a0 : List Int) : Option Int :=
 (giroref2_one_L0 k k a0 0 0).bind fun z =>
 some (w64 (z))
abbrev giroref2_Get_L0T : Type := List Int → Int → List Int → Option (List Int)
def giroref2_Get_L0b (k : Nat) (rec : giroref2_Get_L0T) (s0 : List Int) (s5 : Int) (r0 : List Int) : Option (List Int) :=
 bif decide (s5 < (s0.length : Int)) then (bif ((decide (0 ≤ s5)) && (decide (s5 ≤ (w64 (s5 + 8))))) && (decide ((w64 (s5 + 8)) ≤ (s0.length : Int))) then ((giroref2_one k (slc s0 s5.toNat ((w64 (s5 + 8)).toNat - s5.toNat))).bind fun x0 =>
   bif roomB (r0.length + 1) 8 then (rec s0 (w64 (s5 + 8)) (r0 ++ [x0]))
   else none)
  else none)
 else some r0
def giroref2_Get_L0 (k : Nat) : Nat → giroref2_Get_L0T := rounds (fun _ _ _ => none) (giroref2_Get_L0b k)
def giroref2_Get (k : Nat) (a0 : List Int) : Option ((List Int) × Int) :=
 bif !(decide ((Int.tmod (a0.length : Int) 8) = 0)) then some ([], 2)
 else (giroref2_Get_L0 k k a0 0 []).bind fun z =>
 some (z, 0)
abbrev giroref3_Read_L0X : Type := K9q × K9q
abbrev giroref3_Read_L0T : Type := Int → K9q → K9q → List Int → Option giroref3_Read_L0X
def giroref3_Read_L0b (k : Nat) (rec : giroref3_Read_L0T) (s7 : Int) (b0 b1 : K9q) (r2 : List Int) : Option giroref3_Read_L0X :=
 bif decide (s7 < (r2.length : Int)) then (bif boundOk s7 r2.length then (bif decide (s7 = 0) then (rec (w64 (s7 + 1)) b0 (b1.1, (r2.getD s7.toNat 0), b1.2.2) r2)
   else bif decide (s7 = 1) then (rec (w64 (s7 + 1)) b0 (b1.1, b1.2.1, (r2.getD s7.toNat 0), b1.2.2.2) r2)
   else bif decide (s7 = 2) then (rec (w64 (s7 + 1)) b0 (b1.1, b1.2.1, b1.2.2.1, (r2.getD s7.toNat 0), b1.2.2.2.2) r2)
   else bif decide (s7 = 3) then (rec (w64 (s7 + 1)) b0 (j0_4 b1 ((r2.getD s7.toNat 0), b1.2.2.2.2.2)) r2)
   else bif decide (s7 = 4) then (rec (w64 (s7 + 1)) b0 (j0_5 b1 ((r2.getD s7.toNat 0), b1.2.2.2.2.2.2)) r2)
   else bif decide (s7 = 5) then (rec (w64 (s7 + 1)) b0 (j0_6 b1 (r2.getD s7.toNat 0)) r2)
   else none)
  else none)
 else some (b0, b1)
def giroref3_Read_L0 (k : Nat) : Nat → giroref3_Read_L0T := rounds (fun _ _ _ _ => none) (giroref3_Read_L0b k)
def giroref3_Read (k : Nat) (a0 : List Int) : Option (K9q × Int) :=
 bif decide ((a0.length : Int) = 0) then some ((0, 0, 0, 0, 0, 0, 0), 2)
 else bif boundOk 0 a0.length then (bif decide (1 ≤ (a0.length : Int)) then ((giroref2_Get k (List.drop 1 a0)).bind fun x0 =>
   bif !(decide (x0.2 = 0)) then some ((0, 0, 0, 0, 0, 0, 0), 2)
   else (giroref3_Many k (w64 ((a0.getD 0 0)))).bind fun x1 =>
   bif !(decide ((x0.1.length : Int) = x1)) then some ((0, 0, 0, 0, 0, 0, 0), 2)
   else (giroref3_Read_L0 k k 0 (0, 0, 0, 0, 0, 0, 0) ((w64 ((a0.getD 0 0))), 0, 0, 0, 0, 0, 0) x0.1).bind fun z =>
   some (z.2, 0))
  else none)
 else none
abbrev giroref3_Outs_L0T : Type := List K8q → List K8q → Int → Option (Unit ⊕ Bool)
def giroref3_Outs_L0b (k : Nat) (rec : giroref3_Outs_L0T) (s0 s1 : List K8q) (s5 : Int) : Option (Unit ⊕ Bool) :=
 bif decide (s5 < (s0.length : Int)) then (bif boundOk s5 s0.length then (bif boundOk s5 s1.length then (bif !((decide ((s0.getD s5.toNat (0, 0, 0, 0, 0, 0, 0, 0)).1 = (s1.getD s5.toNat (0, 0, 0, 0, 0, 0, 0, 0)).1)) && ((decide ((s0.getD s5.toNat (0, 0, 0, 0, 0, 0, 0, 0)).2.1 = (s1.getD s5.toNat (0, 0, 0, 0, 0, 0, 0, 0)).2.1)) && ((decide ((s0.getD s5.toNat (0, 0, 0, 0, 0, 0, 0, 0)).2.2.1 = (s1.getD s5.toNat (0, 0, 0, 0, 0, 0, 0, 0)).2.2.1)) && ((decide ((s0.getD s5.toNat (0, 0, 0, 0, 0, 0, 0, 0)).2.2.2.1 = (s1.getD s5.toNat (0, 0, 0, 0, 0, 0, 0, 0)).2.2.2.1)) && ((decide ((s0.getD s5.toNat (0, 0, 0, 0, 0, 0, 0, 0)).2.2.2.2.1 = (s1.getD s5.toNat (0, 0, 0, 0, 0, 0, 0, 0)).2.2.2.2.1)) && ((decide ((s0.getD s5.toNat (0, 0, 0, 0, 0, 0, 0, 0)).2.2.2.2.2.1 = (s1.getD s5.toNat (0, 0, 0, 0, 0, 0, 0, 0)).2.2.2.2.2.1)) && ((decide ((s0.getD s5.toNat (0, 0, 0, 0, 0, 0, 0, 0)).2.2.2.2.2.2.1 = (s1.getD s5.toNat (0, 0, 0, 0, 0, 0, 0, 0)).2.2.2.2.2.2.1)) && (decide ((s0.getD s5.toNat (0, 0, 0, 0, 0, 0, 0, 0)).2.2.2.2.2.2.2 = (s1.getD s5.toNat (0, 0, 0, 0, 0, 0, 0, 0)).2.2.2.2.2.2.2))))))))) then some (.inr false)
    else rec s0 s1 (w64 (s5 + 1)))
   else none)
  else none)
 else some (.inl ())
def giroref3_Outs_L0 (k : Nat) : Nat → giroref3_Outs_L0T
 | 0, _, _, _ => none
 | n + 1, s0, s1, s5 => giroref3_Outs_L0b k (giroref3_Outs_L0 k n) s0 s1 s5
def giroref3_Outs (k : Nat) (a0 a1 : List K8q) : Option Bool :=
 bif !(decide ((a0.length : Int) = (a1.length : Int))) then some false
 else (giroref3_Outs_L0 k k a0 a1 0).bind fun z =>
 match z with
 | .inl z1 => some true
 | .inr z2 => some z2
def tape_Deck_Arm (k : Nat) (a0 : K2q) (a1 : K11q) : Option K2q :=
 some (j0_5 a0 (a1.1, a1.2, true, a0.2.2.2.2.2.2.2.2))
def tape_Deck_Restart (k : Nat) (a0 : K2q) : Option K2q :=
 bif (decide (0 ≤ a0.2.2.1)) && (decide (a0.2.2.1 ≤ (a0.2.1.length : Int))) then (bif (decide (0 ≤ a0.2.2.2.2.1)) && (decide (a0.2.2.2.2.1 ≤ (a0.2.2.2.1.length : Int))) then some (a0.1, (List.take (a0.2.2.1.toNat - 0) a0.2.1), a0.2.2.1, (List.take (a0.2.2.2.2.1.toNat - 0) a0.2.2.2.1), a0.2.2.2.2.1, a0.2.2.2.2.2.1, a0.2.2.2.2.2.2.1, false, false, 0)
  else none)
 else none
def girolaw26_rules (k : Nat) (a0 : Int) : Option K21q :=
 bif decide ((band .i64 a0 3) = 1) then some (4, [(100, 1000), (7, 0)], 12, 20, 100)
 else bif decide ((band .i64 a0 3) = 2) then some (3, [], 20, 20, 4)
 else bif decide ((band .i64 a0 3) = 3) then some (3, [(100, 1000), (7, 0)], 0, 6, 1)
 else some (3, [(100, 1000), (7, 0)], 12, 20, 4)
def play_errs_fn1 (k : Nat) (a0 : K8q) : Option Bool :=
 some (decide (a0.2.1 = 16))
abbrev slices_IndexFunc_Out__play_errs_fn1_L0T : Type := List K8q → Int → Int → Option (Unit ⊕ Int)
def slices_IndexFunc_Out__play_errs_fn1_L0b (k : Nat) (rec : slices_IndexFunc_Out__play_errs_fn1_L0T) (s0 : List K8q) (s7 s8 : Int) : Option (Unit ⊕ Int) :=
 bif decide (s8 < s7) then (bif boundOk s8 s0.length then ((play_errs_fn1 k (s0.getD s8.toNat (0, 0, 0, 0, 0, 0, 0, 0))).bind fun x0 =>
   bif x0 then some (.inr s8)
   else rec s0 s7 (w64 (s8 + 1)))
  else none)
 else some (.inl ())
def slices_IndexFunc_Out__play_errs_fn1_L0 (k : Nat) : Nat → slices_IndexFunc_Out__play_errs_fn1_L0T := rounds (fun _ _ _ => none) (slices_IndexFunc_Out__play_errs_fn1_L0b k)
def slices_IndexFunc_Out__play_errs_fn1 (k : Nat) (a0 : List K8q) : Option Int :=
 (slices_IndexFunc_Out__play_errs_fn1_L0 k k a0 (a0.length : Int) 0).bind fun z =>
 match z with
 | .inl z1 => some (-1)
 | .inr z2 => some z2
def slices_ContainsFunc_Out__play_errs_fn1 (k : Nat) (a0 : List K8q) : Option Bool :=
 (slices_IndexFunc_Out__play_errs_fn1 k a0).bind fun x0 =>
 some (decide (x0 ≥ 0))
def play_errs (k : Nat) (a0 : List K8q) : Option Bool :=
 (slices_ContainsFunc_Out__play_errs_fn1 k a0).bind fun x0 =>
 some x0
abbrev play_Run_L0X : Type := (K4q × K4q × (List (List K8q)) × (List K8q)) ⊕ (K4q × K19q × K6q × K7q × (List Int) × (List Int) × K4q × (List (List K8q)) × (List K8q))
abbrev play_Run_L0T : Type := (Int × (List K3q) × Int × Int × K21q × K4q × K7q × (List Int) × (List Int) × K19q × K6q × K4q × (List (List K8q)) × (List K8q)) ⊕ (Int × (List K3q) × Int × Int × K21q × K4q × K7q × (List Int) × (List Int) × K4q × (List (List K8q)) × (List K8q)) → Option play_Run_L0X
def play_Run_L0b (k : Nat) (rec : play_Run_L0T) (z : (Int × (List K3q) × Int × Int × K21q × K4q × K7q × (List Int) × (List Int) × K19q × K6q × K4q × (List (List K8q)) × (List K8q)) ⊕ (Int × (List K3q) × Int × Int × K21q × K4q × K7q × (List Int) × (List Int) × K4q × (List (List K8q)) × (List K8q))) : Option play_Run_L0X := match z with
 | .inl z => bif decide (z.2.2.2.1 < z.2.2.1) then (bif boundOk z.2.2.2.1 z.2.1.length then (bif decide ((z.2.1.getD z.2.2.2.1.toNat (0, 0, [], 0, 0)).1 = 1) then ((gate_Gate_Do k z.2.2.2.2.2.2.2.2.2.1 z.2.2.2.2.2.2.2.2.2.2.1 (z.2.2.2.2.2.2.1.1, z.2.2.2.2.2.2.2.1, z.2.2.2.2.2.2.1.2.1, z.2.2.2.2.2.2.2.2.1, z.2.2.2.2.2.2.1.2.2) (z.2.1.getD z.2.2.2.1.toNat (0, 0, [], 0, 0)).2.1 (z.2.1.getD z.2.2.2.1.toNat (0, 0, [], 0, 0)).2.2.1).bind fun x4 =>
     (msg_Read k (z.2.1.getD z.2.2.2.1.toNat (0, 0, [], 0, 0)).2.2.1).bind fun x5 =>
     bif decide (x5.2 = 0) then ((play_errs k x4.1).bind fun x6 =>
      bif !x6 then (bif decide ((x4.1.length : Int) > 0) then (bif roomB (z.2.2.2.2.2.2.2.2.2.2.2.2.2.length + 1) 64 then (let y0 : List K8q := (z.2.2.2.2.2.2.2.2.2.2.2.2.2 ++ [((z.2.1.getD z.2.2.2.1.toNat (0, 0, [], 0, 0)).2.1, x5.1)])
         bif roomB (z.2.2.2.2.2.2.2.2.2.2.2.2.1.length + 1) 24 then (let y1 : List (List K8q) := (z.2.2.2.2.2.2.2.2.2.2.2.2.1 ++ [x4.1])
          rec (.inl (z.1, z.2.1, z.2.2.1, (w64 (z.2.2.2.1 + 1)), z.2.2.2.2.1, z.2.2.2.2.2.1, (x4.2.2.2.1, x4.2.2.2.2.2.1, x4.2.2.2.2.2.2.2), x4.2.2.2.2.1, x4.2.2.2.2.2.2.1, x4.2.1, x4.2.2.1, z.2.2.2.2.2.2.2.2.2.2.2.1, y1, y0)))
         else none)
        else none)
       else (gate_Gate_Down k x4.2.1 x4.2.2.1 x4.2.2.2).bind fun x7 =>
       bif !x7.1 then (bif roomB (z.2.2.2.2.2.2.2.2.2.2.2.2.2.length + 1) 64 then (let y2 : List K8q := (z.2.2.2.2.2.2.2.2.2.2.2.2.2 ++ [((z.2.1.getD z.2.2.2.1.toNat (0, 0, [], 0, 0)).2.1, x5.1)])
         bif roomB (z.2.2.2.2.2.2.2.2.2.2.2.2.1.length + 1) 24 then (let y3 : List (List K8q) := (z.2.2.2.2.2.2.2.2.2.2.2.2.1 ++ [x4.1])
          rec (.inl (z.1, z.2.1, z.2.2.1, (w64 (z.2.2.2.1 + 1)), z.2.2.2.2.1, z.2.2.2.2.2.1, (x7.2.2.2.1, x7.2.2.2.2.2.1, x7.2.2.2.2.2.2.2), x7.2.2.2.2.1, x7.2.2.2.2.2.2.1, x7.2.1, x7.2.2.1, z.2.2.2.2.2.2.2.2.2.2.2.1, y3, y2)))
         else none)
        else none)
       else bif roomB (z.2.2.2.2.2.2.2.2.2.2.2.2.1.length + 1) 24 then (let y4 : List (List K8q) := (z.2.2.2.2.2.2.2.2.2.2.2.2.1 ++ [x4.1])
        rec (.inl (z.1, z.2.1, z.2.2.1, (w64 (z.2.2.2.1 + 1)), z.2.2.2.2.1, z.2.2.2.2.2.1, (x7.2.2.2.1, x7.2.2.2.2.2.1, x7.2.2.2.2.2.2.2), x7.2.2.2.2.1, x7.2.2.2.2.2.2.1, x7.2.1, x7.2.2.1, z.2.2.2.2.2.2.2.2.2.2.2.1, y4, z.2.2.2.2.2.2.2.2.2.2.2.2.2)))
       else none)
      else bif roomB (z.2.2.2.2.2.2.2.2.2.2.2.2.1.length + 1) 24 then (let y5 : List (List K8q) := (z.2.2.2.2.2.2.2.2.2.2.2.2.1 ++ [x4.1])
       rec (.inl (z.1, z.2.1, z.2.2.1, (w64 (z.2.2.2.1 + 1)), z.2.2.2.2.1, z.2.2.2.2.2.1, (x4.2.2.2.1, x4.2.2.2.2.2.1, x4.2.2.2.2.2.2.2), x4.2.2.2.2.1, x4.2.2.2.2.2.2.1, x4.2.1, x4.2.2.1, z.2.2.2.2.2.2.2.2.2.2.2.1, y5, z.2.2.2.2.2.2.2.2.2.2.2.2.2)))
      else none)
     else bif roomB (z.2.2.2.2.2.2.2.2.2.2.2.2.1.length + 1) 24 then (let y6 : List (List K8q) := (z.2.2.2.2.2.2.2.2.2.2.2.2.1 ++ [x4.1])
      rec (.inl (z.1, z.2.1, z.2.2.1, (w64 (z.2.2.2.1 + 1)), z.2.2.2.2.1, z.2.2.2.2.2.1, (x4.2.2.2.1, x4.2.2.2.2.2.1, x4.2.2.2.2.2.2.2), x4.2.2.2.2.1, x4.2.2.2.2.2.2.1, x4.2.1, x4.2.2.1, z.2.2.2.2.2.2.2.2.2.2.2.1, y6, z.2.2.2.2.2.2.2.2.2.2.2.2.2)))
     else none)
    else bif decide ((z.2.1.getD z.2.2.2.1.toNat (0, 0, [], 0, 0)).1 = 2) then ((tape_Deck_Arm k (z.2.2.2.2.2.2.1.1, z.2.2.2.2.2.2.2.1, z.2.2.2.2.2.2.1.2.1, z.2.2.2.2.2.2.2.2.1, z.2.2.2.2.2.2.1.2.2) (z.2.1.getD z.2.2.2.1.toNat (0, 0, [], 0, 0)).2.2.2).bind fun x8 =>
     bif roomB (z.2.2.2.2.2.2.2.2.2.2.2.2.1.length + 1) 24 then (let y7 : List (List K8q) := (z.2.2.2.2.2.2.2.2.2.2.2.2.1 ++ [[]])
      rec (.inl (z.1, z.2.1, z.2.2.1, (w64 (z.2.2.2.1 + 1)), z.2.2.2.2.1, z.2.2.2.2.2.1, (x8.1, x8.2.2.1, x8.2.2.2.2), x8.2.1, x8.2.2.2.1, z.2.2.2.2.2.2.2.2.2.1, z.2.2.2.2.2.2.2.2.2.2.1, z.2.2.2.2.2.2.2.2.2.2.2.1, y7, z.2.2.2.2.2.2.2.2.2.2.2.2.2)))
     else none)
    else bif decide ((z.2.1.getD z.2.2.2.1.toNat (0, 0, [], 0, 0)).1 = 3) then ((tape_Deck_Restart k (z.2.2.2.2.2.2.1.1, z.2.2.2.2.2.2.2.1, z.2.2.2.2.2.2.1.2.1, z.2.2.2.2.2.2.2.2.1, z.2.2.2.2.2.2.1.2.2)).bind fun x9 =>
     (gate_Open k z.2.2.2.2.1 x9 z.1).bind fun x10 =>
     match x10 with
     | .inl x11 => bif roomB (z.2.2.2.2.2.2.2.2.2.2.2.2.1.length + 1) 24 then (let y8 : List (List K8q) := (z.2.2.2.2.2.2.2.2.2.2.2.2.1 ++ [[]])
       rec (.inl (z.1, z.2.1, z.2.2.1, (w64 (z.2.2.2.1 + 1)), z.2.2.2.2.1, z.2.2.2.2.2.1, (x11.2.1.1, x11.2.1.2.2.1, x11.2.1.2.2.2.2), x11.2.1.2.1, x11.2.1.2.2.2.1, x11.2.2.1, x11.2.2.2, z.2.2.2.2.2.2.2.2.2.2.2.1, y8, z.2.2.2.2.2.2.2.2.2.2.2.2.2)))
      else none
     | .inr x12 => bif roomB (z.2.2.2.2.2.2.2.2.2.2.2.2.1.length + 1) 24 then (let y9 : List (List K8q) := (z.2.2.2.2.2.2.2.2.2.2.2.2.1 ++ [[]])
       rec (.inr (z.1, z.2.1, z.2.2.1, (w64 (z.2.2.2.1 + 1)), z.2.2.2.2.1, z.2.2.2.2.2.1, (x12.2.1, x12.2.2.2.1, x12.2.2.2.2.2), x12.2.2.1, x12.2.2.2.2.1, z.2.2.2.2.2.2.2.2.2.2.2.1, y9, z.2.2.2.2.2.2.2.2.2.2.2.2.2)))
      else none)
    else bif roomB (z.2.2.2.2.2.2.2.2.2.2.2.2.1.length + 1) 24 then (let y10 : List (List K8q) := (z.2.2.2.2.2.2.2.2.2.2.2.2.1 ++ [[]])
     rec (.inl (z.1, z.2.1, z.2.2.1, (w64 (z.2.2.2.1 + 1)), (j4_8 z (y10, z.2.2.2.2.2.2.2.2.2.2.2.2.2)))))
    else none)
   else none)
  else some (.inr (z.2.2.2.2.2.1, z.2.2.2.2.2.2.2.2.2.1, z.2.2.2.2.2.2.2.2.2.2.1, z.2.2.2.2.2.2.1, z.2.2.2.2.2.2.2.1, z.2.2.2.2.2.2.2.2.1, z.2.2.2.2.2.2.2.2.2.2.2.1, z.2.2.2.2.2.2.2.2.2.2.2.2.1, z.2.2.2.2.2.2.2.2.2.2.2.2.2))
 | .inr z1 => bif decide (z1.2.2.2.1 < z1.2.2.1) then (bif boundOk z1.2.2.2.1 z1.2.1.length then (bif decide ((z1.2.1.getD z1.2.2.2.1.toNat (0, 0, [], 0, 0)).1 = 1) then ((gate_Gate_Do_v2 k (z1.2.1.getD z1.2.2.2.1.toNat (0, 0, [], 0, 0)).2.1 (z1.2.1.getD z1.2.2.2.1.toNat (0, 0, [], 0, 0)).2.2.1).bind fun x13 =>
     (msg_Read k (z1.2.1.getD z1.2.2.2.1.toNat (0, 0, [], 0, 0)).2.2.1).bind fun x14 =>
     bif decide (x14.2 = 0) then ((play_errs k x13).bind fun x15 =>
      bif !x15 then (bif decide ((x13.length : Int) > 0) then (bif roomB (z1.2.2.2.2.2.2.2.2.2.2.2.length + 1) 64 then (let y11 : List K8q := (z1.2.2.2.2.2.2.2.2.2.2.2 ++ [((z1.2.1.getD z1.2.2.2.1.toNat (0, 0, [], 0, 0)).2.1, x14.1)])
         bif roomB (z1.2.2.2.2.2.2.2.2.2.2.1.length + 1) 24 then (let y12 : List (List K8q) := (z1.2.2.2.2.2.2.2.2.2.2.1 ++ [x13])
          rec (.inr (z1.1, z1.2.1, z1.2.2.1, (w64 (z1.2.2.2.1 + 1)), (j4_6 z1 (y12, y11)))))
         else none)
        else none)
       else (gate_Gate_Down_v2 k).bind fun x16 =>
       bif !x16 then (bif roomB (z1.2.2.2.2.2.2.2.2.2.2.2.length + 1) 64 then (let y13 : List K8q := (z1.2.2.2.2.2.2.2.2.2.2.2 ++ [((z1.2.1.getD z1.2.2.2.1.toNat (0, 0, [], 0, 0)).2.1, x14.1)])
         bif roomB (z1.2.2.2.2.2.2.2.2.2.2.1.length + 1) 24 then (let y14 : List (List K8q) := (z1.2.2.2.2.2.2.2.2.2.2.1 ++ [x13])
          rec (.inr (z1.1, z1.2.1, z1.2.2.1, (w64 (z1.2.2.2.1 + 1)), (j4_6 z1 (y14, y13)))))
         else none)
        else none)
       else bif roomB (z1.2.2.2.2.2.2.2.2.2.2.1.length + 1) 24 then (let y15 : List (List K8q) := (z1.2.2.2.2.2.2.2.2.2.2.1 ++ [x13])
        rec (.inr (z1.1, z1.2.1, z1.2.2.1, (w64 (z1.2.2.2.1 + 1)), (j4_6 z1 (y15, z1.2.2.2.2.2.2.2.2.2.2.2)))))
       else none)
      else bif roomB (z1.2.2.2.2.2.2.2.2.2.2.1.length + 1) 24 then (let y16 : List (List K8q) := (z1.2.2.2.2.2.2.2.2.2.2.1 ++ [x13])
       rec (.inr (z1.1, z1.2.1, z1.2.2.1, (w64 (z1.2.2.2.1 + 1)), (j4_6 z1 (y16, z1.2.2.2.2.2.2.2.2.2.2.2)))))
      else none)
     else bif roomB (z1.2.2.2.2.2.2.2.2.2.2.1.length + 1) 24 then (let y17 : List (List K8q) := (z1.2.2.2.2.2.2.2.2.2.2.1 ++ [x13])
      rec (.inr (z1.1, z1.2.1, z1.2.2.1, (w64 (z1.2.2.2.1 + 1)), (j4_6 z1 (y17, z1.2.2.2.2.2.2.2.2.2.2.2)))))
     else none)
    else bif decide ((z1.2.1.getD z1.2.2.2.1.toNat (0, 0, [], 0, 0)).1 = 2) then ((tape_Deck_Arm k (z1.2.2.2.2.2.2.1.1, z1.2.2.2.2.2.2.2.1, z1.2.2.2.2.2.2.1.2.1, z1.2.2.2.2.2.2.2.2.1, z1.2.2.2.2.2.2.1.2.2) (z1.2.1.getD z1.2.2.2.1.toNat (0, 0, [], 0, 0)).2.2.2).bind fun x17 =>
     bif roomB (z1.2.2.2.2.2.2.2.2.2.2.1.length + 1) 24 then (let y18 : List (List K8q) := (z1.2.2.2.2.2.2.2.2.2.2.1 ++ [[]])
      rec (.inr (z1.1, z1.2.1, z1.2.2.1, (w64 (z1.2.2.2.1 + 1)), z1.2.2.2.2.1, z1.2.2.2.2.2.1, (x17.1, x17.2.2.1, x17.2.2.2.2), x17.2.1, x17.2.2.2.1, z1.2.2.2.2.2.2.2.2.2.1, y18, z1.2.2.2.2.2.2.2.2.2.2.2)))
     else none)
    else bif decide ((z1.2.1.getD z1.2.2.2.1.toNat (0, 0, [], 0, 0)).1 = 3) then ((tape_Deck_Restart k (z1.2.2.2.2.2.2.1.1, z1.2.2.2.2.2.2.2.1, z1.2.2.2.2.2.2.1.2.1, z1.2.2.2.2.2.2.2.2.1, z1.2.2.2.2.2.2.1.2.2)).bind fun x18 =>
     (gate_Open k z1.2.2.2.2.1 x18 z1.1).bind fun x19 =>
     match x19 with
     | .inl x20 => bif roomB (z1.2.2.2.2.2.2.2.2.2.2.1.length + 1) 24 then (let y19 : List (List K8q) := (z1.2.2.2.2.2.2.2.2.2.2.1 ++ [[]])
       rec (.inl (z1.1, z1.2.1, z1.2.2.1, (w64 (z1.2.2.2.1 + 1)), z1.2.2.2.2.1, z1.2.2.2.2.2.1, (x20.2.1.1, x20.2.1.2.2.1, x20.2.1.2.2.2.2), x20.2.1.2.1, x20.2.1.2.2.2.1, x20.2.2.1, x20.2.2.2, z1.2.2.2.2.2.2.2.2.2.1, y19, z1.2.2.2.2.2.2.2.2.2.2.2)))
      else none
     | .inr x21 => bif roomB (z1.2.2.2.2.2.2.2.2.2.2.1.length + 1) 24 then (let y20 : List (List K8q) := (z1.2.2.2.2.2.2.2.2.2.2.1 ++ [[]])
       rec (.inr (z1.1, z1.2.1, z1.2.2.1, (w64 (z1.2.2.2.1 + 1)), z1.2.2.2.2.1, z1.2.2.2.2.2.1, (x21.2.1, x21.2.2.2.1, x21.2.2.2.2.2), x21.2.2.1, x21.2.2.2.2.1, z1.2.2.2.2.2.2.2.2.2.1, y20, z1.2.2.2.2.2.2.2.2.2.2.2)))
      else none)
    else bif roomB (z1.2.2.2.2.2.2.2.2.2.2.1.length + 1) 24 then (let y21 : List (List K8q) := (z1.2.2.2.2.2.2.2.2.2.2.1 ++ [[]])
     rec (.inr (z1.1, z1.2.1, z1.2.2.1, (w64 (z1.2.2.2.1 + 1)), (j4_6 z1 (y21, z1.2.2.2.2.2.2.2.2.2.2.2)))))
    else none)
   else none)
  else some (.inl (z1.2.2.2.2.2.1, z1.2.2.2.2.2.2.2.2.2.1, z1.2.2.2.2.2.2.2.2.2.2.1, z1.2.2.2.2.2.2.2.2.2.2.2))
def play_Run_L0 (k : Nat) : Nat → play_Run_L0T := rounds (fun _ => none) (play_Run_L0b k)
def play_Run (k : Nat) (a0 : K21q) (a1 a2 : Int) (a3 : List K3q) : Option ((List (List K8q)) × (List K8q) × Int × (List K10q) × (List (List Int)) × (List Int) × (List (List Int)) × (List Int) × (List (List Int)) × (List K9q) × (List Int) × Int × Bool × Bool) :=
 (tape_New k a1).bind fun x0 =>
 match x0 with
 | .inl x1 => (gate_Open k a0 x1 a2).bind fun x2 =>
  match x2 with
  | .inl x3 => bif !(decide (x3.1 = 0)) then some ([], [], 0, [], [], [], [], [], [], [], [], 0, false, false)
   else (play_Run_L0 k k (.inl (a2, a3, (a3.length : Int), 0, a0, (0, 0, false, false), (x3.2.1.1, x3.2.1.2.2.1, x3.2.1.2.2.2.2), x3.2.1.2.1, x3.2.1.2.2.2.1, x3.2.2.1, x3.2.2.2, (0, 0, false, false), [], []))).bind fun z2 =>
   match z2 with
   | .inl z3 => (gate_Gate_State_v2 k).bind fun x22 =>
    (gate_Gate_Down_v2 k).bind fun x23 =>
    some (z3.2.2.1, z3.2.2.2, (f0_11 x22 (!x23)))
   | .inr z4 => (gate_Gate_State k z4.2.1 z4.2.2.1 (z4.2.2.2.1.1, z4.2.2.2.2.1, z4.2.2.2.1.2.1, z4.2.2.2.2.2.1, z4.2.2.2.1.2.2)).bind fun x24 =>
    (gate_Gate_Down k x24.2.1 x24.2.2.1 x24.2.2.2).bind fun x25 =>
    some (z4.2.2.2.2.2.2.2.1, z4.2.2.2.2.2.2.2.2, (f0_11 x24.1 (!x25.1)))
  | .inr x26 => bif !(decide (x26.1 = 0)) then some ([], [], 0, [], [], [], [], [], [], [], [], 0, false, false)
   else (play_Run_L0 k k (.inr (a2, a3, (a3.length : Int), 0, a0, (0, 0, false, false), (x26.2.1, x26.2.2.2.1, x26.2.2.2.2.2), x26.2.2.1, x26.2.2.2.2.1, (0, 0, false, false), [], []))).bind fun z5 =>
   match z5 with
   | .inl z6 => (gate_Gate_State_v2 k).bind fun x27 =>
    (gate_Gate_Down_v2 k).bind fun x28 =>
    some (z6.2.2.1, z6.2.2.2, (f0_11 x27 (!x28)))
   | .inr z7 => (gate_Gate_State k z7.2.1 z7.2.2.1 (z7.2.2.2.1.1, z7.2.2.2.2.1, z7.2.2.2.1.2.1, z7.2.2.2.2.2.1, z7.2.2.2.1.2.2)).bind fun x29 =>
    (gate_Gate_Down k x29.2.1 x29.2.2.1 x29.2.2.2).bind fun x30 =>
    some (z7.2.2.2.2.2.2.2.1, z7.2.2.2.2.2.2.2.2, (f0_11 x29.1 (!x30.1)))
 | .inr x31 => (gate_Open_v2 k a0 a2).bind fun x32 =>
  bif !(decide (x32 = 0)) then some ([], [], 0, [], [], [], [], [], [], [], [], 0, false, false)
  else none
def girolaw26_known (k : Nat) : Option Bool :=
 (girolaw26_rules k 0).bind fun x0 =>
 (play_Run k x0 20000 10 []).bind fun x1 =>
 bif x1.2.2.2.2.2.2.2.2.2.2.2.2.2 then ((girolaw26_rules k 0).bind fun x2 =>
  (giroref23_New k x2).bind fun x3 =>
  (giroref24_Same k (g2_11 x1) x3).bind fun x4 =>
  bif x4 then (bif decide ((w64 ((x1.1.length : Int) + (x1.2.1.length : Int))) = 0) then ((girolaw26_rules k 0).bind fun x5 =>
    (play_Run k x5 (-1) 10 []).bind fun x6 =>
    some (!x6.2.2.2.2.2.2.2.2.2.2.2.2.2))
   else some false)
  else some false)
 else some false
def girolaw26_PlayForm (k : Nat) (a0 a1 : Int) (a2 : List Int) : Option Bool :=
 (giroref3_Read k a2).bind fun x0 =>
 bif decide (x0.2 = 0) then some true
 else bif decide ((a2.length : Int) > 200) then some true
 else (girolaw26_rules k a0).bind fun x1 =>
 (play_Run k x1 20000 5 [(1, a1, a2, 0, 0), (3, 0, [], 0, 0), (9, 0, [], 0, 0)]).bind fun x2 =>
 bif decide ((x2.1.length : Int) = 3) then (bif boundOk 0 x2.1.length then ((giroref3_Of k 16 [2]).bind fun x3 =>
   (giroref3_Outs k (x2.1.getD 0 []) [(a1, x3)]).bind fun x4 =>
   bif x4 then (bif decide ((x2.2.1.length : Int) = 0) then (bif x2.2.2.2.2.2.2.2.2.2.2.2.2.2 then ((giroref23_New k x1).bind fun x5 =>
      (giroref24_Same k (g2_11 x2) x5).bind fun x6 =>
      bif x6 then ((girolaw26_known k).bind fun x7 =>
       some x7)
      else some false)
     else some false)
    else some false)
   else some false)
  else none)
 else some false
end Go.Ab.Gi
