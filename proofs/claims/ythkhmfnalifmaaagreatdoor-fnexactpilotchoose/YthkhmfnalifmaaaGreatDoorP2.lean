/- Proved here: the law FnExactPilotChooseCard of the given program answers true at every input, and leaves the input as it was; no condition. This text: lemmas on the way (an evaluator of the program's code, sound once for all; the functions it prints; plain proofs on these). -/
import Derived.Test.YthkhmfnalifmaaaGreatDoorP1
import Derived.ChangeArms
import Derived.WalkKit
import Derived.ProofKit
import Derived.OpenShut
import Derived.ShutString
import Derived.ChangeOld
import Derived.Below
import Derived.SizedLaws
import Derived.Test.YthkhmfnalifmaaaGreatDoorChecked
import Derived.Lib.Strings
import Derived.Lib.Slices
import Derived.Lib.Walk
import Derived.Lib.Bytealg
set_option linter.all false
set_option autoImplicit false
namespace Go.Ev
abbrev bs (l : Array UInt8) : ByteArray := ⟨l⟩
abbrev nils : List (List C) := []
abbrev rows (l : List (List C)) : List (List C) := l
abbrev w64 (n : Int) : Int := IntKind.wrap .i64 n
def call1 (o : Option (List C)) (K : C → R) : R := bindF o fun ys => K (ys.getD 0 .nil)
def call2 (o : Option (List C)) (K : C → C → R) : R := bindF o fun ys => K (ys.getD 0 .nil) (ys.getD 1 .nil)
def call3 (o : Option (List C)) (K : C → C → C → R) : R := bindF o fun ys => K (ys.getD 0 .nil) (ys.getD 1 .nil) (ys.getD 2 .nil)
def call4 (o : Option (List C)) (K : C → C → C → C → R) : R := bindF o fun ys => K (ys.getD 0 .nil) (ys.getD 1 .nil) (ys.getD 2 .nil) (ys.getD 3 .nil)
def call5 (o : Option (List C)) (K : C → C → C → C → C → R) : R := bindF o fun ys => K (ys.getD 0 .nil) (ys.getD 1 .nil) (ys.getD 2 .nil) (ys.getD 3 .nil) (ys.getD 4 .nil)
def call6 (o : Option (List C)) (K : C → C → C → C → C → C → R) : R := bindF o fun ys => K (ys.getD 0 .nil) (ys.getD 1 .nil) (ys.getD 2 .nil) (ys.getD 3 .nil) (ys.getD 4 .nil) (ys.getD 5 .nil)
def call7 (o : Option (List C)) (K : C → C → C → C → C → C → C → R) : R := bindF o fun ys => K (ys.getD 0 .nil) (ys.getD 1 .nil) (ys.getD 2 .nil) (ys.getD 3 .nil) (ys.getD 4 .nil) (ys.getD 5 .nil) (ys.getD 6 .nil)
def call8 (o : Option (List C)) (K : C → C → C → C → C → C → C → C → R) : R := bindF o fun ys => K (ys.getD 0 .nil) (ys.getD 1 .nil) (ys.getD 2 .nil) (ys.getD 3 .nil) (ys.getD 4 .nil) (ys.getD 5 .nil) (ys.getD 6 .nil) (ys.getD 7 .nil)
def call9 (o : Option (List C)) (K : C → C → C → C → C → C → C → C → C → R) : R := bindF o fun ys => K (ys.getD 0 .nil) (ys.getD 1 .nil) (ys.getD 2 .nil) (ys.getD 3 .nil) (ys.getD 4 .nil) (ys.getD 5 .nil) (ys.getD 6 .nil) (ys.getD 7 .nil) (ys.getD 8 .nil)
def call10 (o : Option (List C)) (K : C → C → C → C → C → C → C → C → C → C → R) : R := bindF o fun ys => K (ys.getD 0 .nil) (ys.getD 1 .nil) (ys.getD 2 .nil) (ys.getD 3 .nil) (ys.getD 4 .nil) (ys.getD 5 .nil) (ys.getD 6 .nil) (ys.getD 7 .nil) (ys.getD 8 .nil) (ys.getD 9 .nil)
def call11 (o : Option (List C)) (K : C → C → C → C → C → C → C → C → C → C → C → R) : R := bindF o fun ys => K (ys.getD 0 .nil) (ys.getD 1 .nil) (ys.getD 2 .nil) (ys.getD 3 .nil) (ys.getD 4 .nil) (ys.getD 5 .nil) (ys.getD 6 .nil) (ys.getD 7 .nil) (ys.getD 8 .nil) (ys.getD 9 .nil) (ys.getD 10 .nil)
def call12 (o : Option (List C)) (K : C → C → C → C → C → C → C → C → C → C → C → C → R) : R := bindF o fun ys => K (ys.getD 0 .nil) (ys.getD 1 .nil) (ys.getD 2 .nil) (ys.getD 3 .nil) (ys.getD 4 .nil) (ys.getD 5 .nil) (ys.getD 6 .nil) (ys.getD 7 .nil) (ys.getD 8 .nil) (ys.getD 9 .nil) (ys.getD 10 .nil) (ys.getD 11 .nil)
def call13 (o : Option (List C)) (K : C → C → C → C → C → C → C → C → C → C → C → C → C → R) : R := bindF o fun ys => K (ys.getD 0 .nil) (ys.getD 1 .nil) (ys.getD 2 .nil) (ys.getD 3 .nil) (ys.getD 4 .nil) (ys.getD 5 .nil) (ys.getD 6 .nil) (ys.getD 7 .nil) (ys.getD 8 .nil) (ys.getD 9 .nil) (ys.getD 10 .nil) (ys.getD 11 .nil) (ys.getD 12 .nil)
def call14 (o : Option (List C)) (K : C → C → C → C → C → C → C → C → C → C → C → C → C → C → R) : R := bindF o fun ys => K (ys.getD 0 .nil) (ys.getD 1 .nil) (ys.getD 2 .nil) (ys.getD 3 .nil) (ys.getD 4 .nil) (ys.getD 5 .nil) (ys.getD 6 .nil) (ys.getD 7 .nil) (ys.getD 8 .nil) (ys.getD 9 .nil) (ys.getD 10 .nil) (ys.getD 11 .nil) (ys.getD 12 .nil) (ys.getD 13 .nil)
def call15 (o : Option (List C)) (K : C → C → C → C → C → C → C → C → C → C → C → C → C → C → C → R) : R := bindF o fun ys => K (ys.getD 0 .nil) (ys.getD 1 .nil) (ys.getD 2 .nil) (ys.getD 3 .nil) (ys.getD 4 .nil) (ys.getD 5 .nil) (ys.getD 6 .nil) (ys.getD 7 .nil) (ys.getD 8 .nil) (ys.getD 9 .nil) (ys.getD 10 .nil) (ys.getD 11 .nil) (ys.getD 12 .nil) (ys.getD 13 .nil) (ys.getD 14 .nil)
def call16 (o : Option (List C)) (K : C → C → C → C → C → C → C → C → C → C → C → C → C → C → C → C → R) : R := bindF o fun ys => K (ys.getD 0 .nil) (ys.getD 1 .nil) (ys.getD 2 .nil) (ys.getD 3 .nil) (ys.getD 4 .nil) (ys.getD 5 .nil) (ys.getD 6 .nil) (ys.getD 7 .nil) (ys.getD 8 .nil) (ys.getD 9 .nil) (ys.getD 10 .nil) (ys.getD 11 .nil) (ys.getD 12 .nil) (ys.getD 13 .nil) (ys.getD 14 .nil) (ys.getD 15 .nil)
def call17 (o : Option (List C)) (K : C → C → C → C → C → C → C → C → C → C → C → C → C → C → C → C → C → R) : R := bindF o fun ys => K (ys.getD 0 .nil) (ys.getD 1 .nil) (ys.getD 2 .nil) (ys.getD 3 .nil) (ys.getD 4 .nil) (ys.getD 5 .nil) (ys.getD 6 .nil) (ys.getD 7 .nil) (ys.getD 8 .nil) (ys.getD 9 .nil) (ys.getD 10 .nil) (ys.getD 11 .nil) (ys.getD 12 .nil) (ys.getD 13 .nil) (ys.getD 14 .nil) (ys.getD 15 .nil) (ys.getD 16 .nil)
def call18 (o : Option (List C)) (K : C → C → C → C → C → C → C → C → C → C → C → C → C → C → C → C → C → C → R) : R := bindF o fun ys => K (ys.getD 0 .nil) (ys.getD 1 .nil) (ys.getD 2 .nil) (ys.getD 3 .nil) (ys.getD 4 .nil) (ys.getD 5 .nil) (ys.getD 6 .nil) (ys.getD 7 .nil) (ys.getD 8 .nil) (ys.getD 9 .nil) (ys.getD 10 .nil) (ys.getD 11 .nil) (ys.getD 12 .nil) (ys.getD 13 .nil) (ys.getD 14 .nil) (ys.getD 15 .nil) (ys.getD 16 .nil) (ys.getD 17 .nil)
def call19 (o : Option (List C)) (K : C → C → C → C → C → C → C → C → C → C → C → C → C → C → C → C → C → C → C → R) : R := bindF o fun ys => K (ys.getD 0 .nil) (ys.getD 1 .nil) (ys.getD 2 .nil) (ys.getD 3 .nil) (ys.getD 4 .nil) (ys.getD 5 .nil) (ys.getD 6 .nil) (ys.getD 7 .nil) (ys.getD 8 .nil) (ys.getD 9 .nil) (ys.getD 10 .nil) (ys.getD 11 .nil) (ys.getD 12 .nil) (ys.getD 13 .nil) (ys.getD 14 .nil) (ys.getD 15 .nil) (ys.getD 16 .nil) (ys.getD 17 .nil) (ys.getD 18 .nil)
def call20 (o : Option (List C)) (K : C → C → C → C → C → C → C → C → C → C → C → C → C → C → C → C → C → C → C → C → R) : R := bindF o fun ys => K (ys.getD 0 .nil) (ys.getD 1 .nil) (ys.getD 2 .nil) (ys.getD 3 .nil) (ys.getD 4 .nil) (ys.getD 5 .nil) (ys.getD 6 .nil) (ys.getD 7 .nil) (ys.getD 8 .nil) (ys.getD 9 .nil) (ys.getD 10 .nil) (ys.getD 11 .nil) (ys.getD 12 .nil) (ys.getD 13 .nil) (ys.getD 14 .nil) (ys.getD 15 .nil) (ys.getD 16 .nil) (ys.getD 17 .nil) (ys.getD 18 .nil) (ys.getD 19 .nil)
def call21 (o : Option (List C)) (K : C → C → C → C → C → C → C → C → C → C → C → C → C → C → C → C → C → C → C → C → C → R) : R := bindF o fun ys => K (ys.getD 0 .nil) (ys.getD 1 .nil) (ys.getD 2 .nil) (ys.getD 3 .nil) (ys.getD 4 .nil) (ys.getD 5 .nil) (ys.getD 6 .nil) (ys.getD 7 .nil) (ys.getD 8 .nil) (ys.getD 9 .nil) (ys.getD 10 .nil) (ys.getD 11 .nil) (ys.getD 12 .nil) (ys.getD 13 .nil) (ys.getD 14 .nil) (ys.getD 15 .nil) (ys.getD 16 .nil) (ys.getD 17 .nil) (ys.getD 18 .nil) (ys.getD 19 .nil) (ys.getD 20 .nil)
def call22 (o : Option (List C)) (K : C → C → C → C → C → C → C → C → C → C → C → C → C → C → C → C → C → C → C → C → C → C → R) : R := bindF o fun ys => K (ys.getD 0 .nil) (ys.getD 1 .nil) (ys.getD 2 .nil) (ys.getD 3 .nil) (ys.getD 4 .nil) (ys.getD 5 .nil) (ys.getD 6 .nil) (ys.getD 7 .nil) (ys.getD 8 .nil) (ys.getD 9 .nil) (ys.getD 10 .nil) (ys.getD 11 .nil) (ys.getD 12 .nil) (ys.getD 13 .nil) (ys.getD 14 .nil) (ys.getD 15 .nil) (ys.getD 16 .nil) (ys.getD 17 .nil) (ys.getD 18 .nil) (ys.getD 19 .nil) (ys.getD 20 .nil) (ys.getD 21 .nil)
def call23 (o : Option (List C)) (K : C → C → C → C → C → C → C → C → C → C → C → C → C → C → C → C → C → C → C → C → C → C → C → R) : R := bindF o fun ys => K (ys.getD 0 .nil) (ys.getD 1 .nil) (ys.getD 2 .nil) (ys.getD 3 .nil) (ys.getD 4 .nil) (ys.getD 5 .nil) (ys.getD 6 .nil) (ys.getD 7 .nil) (ys.getD 8 .nil) (ys.getD 9 .nil) (ys.getD 10 .nil) (ys.getD 11 .nil) (ys.getD 12 .nil) (ys.getD 13 .nil) (ys.getD 14 .nil) (ys.getD 15 .nil) (ys.getD 16 .nil) (ys.getD 17 .nil) (ys.getD 18 .nil) (ys.getD 19 .nil) (ys.getD 20 .nil) (ys.getD 21 .nil) (ys.getD 22 .nil)
def call24 (o : Option (List C)) (K : C → C → C → C → C → C → C → C → C → C → C → C → C → C → C → C → C → C → C → C → C → C → C → C → R) : R := bindF o fun ys => K (ys.getD 0 .nil) (ys.getD 1 .nil) (ys.getD 2 .nil) (ys.getD 3 .nil) (ys.getD 4 .nil) (ys.getD 5 .nil) (ys.getD 6 .nil) (ys.getD 7 .nil) (ys.getD 8 .nil) (ys.getD 9 .nil) (ys.getD 10 .nil) (ys.getD 11 .nil) (ys.getD 12 .nil) (ys.getD 13 .nil) (ys.getD 14 .nil) (ys.getD 15 .nil) (ys.getD 16 .nil) (ys.getD 17 .nil) (ys.getD 18 .nil) (ys.getD 19 .nil) (ys.getD 20 .nil) (ys.getD 21 .nil) (ys.getD 22 .nil) (ys.getD 23 .nil)
def ap1 (f : C → R) (xs : List C) : R := f (xs.getD 0 .nil)
def ap2 (f : C → C → R) (xs : List C) : R := f (xs.getD 0 .nil) (xs.getD 1 .nil)
def ap3 (f : C → C → C → R) (xs : List C) : R := f (xs.getD 0 .nil) (xs.getD 1 .nil) (xs.getD 2 .nil)
def ap4 (f : C → C → C → C → R) (xs : List C) : R := f (xs.getD 0 .nil) (xs.getD 1 .nil) (xs.getD 2 .nil) (xs.getD 3 .nil)
def ap5 (f : C → C → C → C → C → R) (xs : List C) : R := f (xs.getD 0 .nil) (xs.getD 1 .nil) (xs.getD 2 .nil) (xs.getD 3 .nil) (xs.getD 4 .nil)
def ap6 (f : C → C → C → C → C → C → R) (xs : List C) : R := f (xs.getD 0 .nil) (xs.getD 1 .nil) (xs.getD 2 .nil) (xs.getD 3 .nil) (xs.getD 4 .nil) (xs.getD 5 .nil)
def ap7 (f : C → C → C → C → C → C → C → R) (xs : List C) : R := f (xs.getD 0 .nil) (xs.getD 1 .nil) (xs.getD 2 .nil) (xs.getD 3 .nil) (xs.getD 4 .nil) (xs.getD 5 .nil) (xs.getD 6 .nil)
def ap8 (f : C → C → C → C → C → C → C → C → R) (xs : List C) : R := f (xs.getD 0 .nil) (xs.getD 1 .nil) (xs.getD 2 .nil) (xs.getD 3 .nil) (xs.getD 4 .nil) (xs.getD 5 .nil) (xs.getD 6 .nil) (xs.getD 7 .nil)
def ap9 (f : C → C → C → C → C → C → C → C → C → R) (xs : List C) : R := f (xs.getD 0 .nil) (xs.getD 1 .nil) (xs.getD 2 .nil) (xs.getD 3 .nil) (xs.getD 4 .nil) (xs.getD 5 .nil) (xs.getD 6 .nil) (xs.getD 7 .nil) (xs.getD 8 .nil)
def ap10 (f : C → C → C → C → C → C → C → C → C → C → R) (xs : List C) : R := f (xs.getD 0 .nil) (xs.getD 1 .nil) (xs.getD 2 .nil) (xs.getD 3 .nil) (xs.getD 4 .nil) (xs.getD 5 .nil) (xs.getD 6 .nil) (xs.getD 7 .nil) (xs.getD 8 .nil) (xs.getD 9 .nil)
def ap11 (f : C → C → C → C → C → C → C → C → C → C → C → R) (xs : List C) : R := f (xs.getD 0 .nil) (xs.getD 1 .nil) (xs.getD 2 .nil) (xs.getD 3 .nil) (xs.getD 4 .nil) (xs.getD 5 .nil) (xs.getD 6 .nil) (xs.getD 7 .nil) (xs.getD 8 .nil) (xs.getD 9 .nil) (xs.getD 10 .nil)
def ap12 (f : C → C → C → C → C → C → C → C → C → C → C → C → R) (xs : List C) : R := f (xs.getD 0 .nil) (xs.getD 1 .nil) (xs.getD 2 .nil) (xs.getD 3 .nil) (xs.getD 4 .nil) (xs.getD 5 .nil) (xs.getD 6 .nil) (xs.getD 7 .nil) (xs.getD 8 .nil) (xs.getD 9 .nil) (xs.getD 10 .nil) (xs.getD 11 .nil)
def ap13 (f : C → C → C → C → C → C → C → C → C → C → C → C → C → R) (xs : List C) : R := f (xs.getD 0 .nil) (xs.getD 1 .nil) (xs.getD 2 .nil) (xs.getD 3 .nil) (xs.getD 4 .nil) (xs.getD 5 .nil) (xs.getD 6 .nil) (xs.getD 7 .nil) (xs.getD 8 .nil) (xs.getD 9 .nil) (xs.getD 10 .nil) (xs.getD 11 .nil) (xs.getD 12 .nil)
def ap14 (f : C → C → C → C → C → C → C → C → C → C → C → C → C → C → R) (xs : List C) : R := f (xs.getD 0 .nil) (xs.getD 1 .nil) (xs.getD 2 .nil) (xs.getD 3 .nil) (xs.getD 4 .nil) (xs.getD 5 .nil) (xs.getD 6 .nil) (xs.getD 7 .nil) (xs.getD 8 .nil) (xs.getD 9 .nil) (xs.getD 10 .nil) (xs.getD 11 .nil) (xs.getD 12 .nil) (xs.getD 13 .nil)
def ap15 (f : C → C → C → C → C → C → C → C → C → C → C → C → C → C → C → R) (xs : List C) : R := f (xs.getD 0 .nil) (xs.getD 1 .nil) (xs.getD 2 .nil) (xs.getD 3 .nil) (xs.getD 4 .nil) (xs.getD 5 .nil) (xs.getD 6 .nil) (xs.getD 7 .nil) (xs.getD 8 .nil) (xs.getD 9 .nil) (xs.getD 10 .nil) (xs.getD 11 .nil) (xs.getD 12 .nil) (xs.getD 13 .nil) (xs.getD 14 .nil)
def ap16 (f : C → C → C → C → C → C → C → C → C → C → C → C → C → C → C → C → R) (xs : List C) : R := f (xs.getD 0 .nil) (xs.getD 1 .nil) (xs.getD 2 .nil) (xs.getD 3 .nil) (xs.getD 4 .nil) (xs.getD 5 .nil) (xs.getD 6 .nil) (xs.getD 7 .nil) (xs.getD 8 .nil) (xs.getD 9 .nil) (xs.getD 10 .nil) (xs.getD 11 .nil) (xs.getD 12 .nil) (xs.getD 13 .nil) (xs.getD 14 .nil) (xs.getD 15 .nil)
def ap17 (f : C → C → C → C → C → C → C → C → C → C → C → C → C → C → C → C → C → R) (xs : List C) : R := f (xs.getD 0 .nil) (xs.getD 1 .nil) (xs.getD 2 .nil) (xs.getD 3 .nil) (xs.getD 4 .nil) (xs.getD 5 .nil) (xs.getD 6 .nil) (xs.getD 7 .nil) (xs.getD 8 .nil) (xs.getD 9 .nil) (xs.getD 10 .nil) (xs.getD 11 .nil) (xs.getD 12 .nil) (xs.getD 13 .nil) (xs.getD 14 .nil) (xs.getD 15 .nil) (xs.getD 16 .nil)
def ap18 (f : C → C → C → C → C → C → C → C → C → C → C → C → C → C → C → C → C → C → R) (xs : List C) : R := f (xs.getD 0 .nil) (xs.getD 1 .nil) (xs.getD 2 .nil) (xs.getD 3 .nil) (xs.getD 4 .nil) (xs.getD 5 .nil) (xs.getD 6 .nil) (xs.getD 7 .nil) (xs.getD 8 .nil) (xs.getD 9 .nil) (xs.getD 10 .nil) (xs.getD 11 .nil) (xs.getD 12 .nil) (xs.getD 13 .nil) (xs.getD 14 .nil) (xs.getD 15 .nil) (xs.getD 16 .nil) (xs.getD 17 .nil)
def ap19 (f : C → C → C → C → C → C → C → C → C → C → C → C → C → C → C → C → C → C → C → R) (xs : List C) : R := f (xs.getD 0 .nil) (xs.getD 1 .nil) (xs.getD 2 .nil) (xs.getD 3 .nil) (xs.getD 4 .nil) (xs.getD 5 .nil) (xs.getD 6 .nil) (xs.getD 7 .nil) (xs.getD 8 .nil) (xs.getD 9 .nil) (xs.getD 10 .nil) (xs.getD 11 .nil) (xs.getD 12 .nil) (xs.getD 13 .nil) (xs.getD 14 .nil) (xs.getD 15 .nil) (xs.getD 16 .nil) (xs.getD 17 .nil) (xs.getD 18 .nil)
def ap20 (f : C → C → C → C → C → C → C → C → C → C → C → C → C → C → C → C → C → C → C → C → R) (xs : List C) : R := f (xs.getD 0 .nil) (xs.getD 1 .nil) (xs.getD 2 .nil) (xs.getD 3 .nil) (xs.getD 4 .nil) (xs.getD 5 .nil) (xs.getD 6 .nil) (xs.getD 7 .nil) (xs.getD 8 .nil) (xs.getD 9 .nil) (xs.getD 10 .nil) (xs.getD 11 .nil) (xs.getD 12 .nil) (xs.getD 13 .nil) (xs.getD 14 .nil) (xs.getD 15 .nil) (xs.getD 16 .nil) (xs.getD 17 .nil) (xs.getD 18 .nil) (xs.getD 19 .nil)
def ap21 (f : C → C → C → C → C → C → C → C → C → C → C → C → C → C → C → C → C → C → C → C → C → R) (xs : List C) : R := f (xs.getD 0 .nil) (xs.getD 1 .nil) (xs.getD 2 .nil) (xs.getD 3 .nil) (xs.getD 4 .nil) (xs.getD 5 .nil) (xs.getD 6 .nil) (xs.getD 7 .nil) (xs.getD 8 .nil) (xs.getD 9 .nil) (xs.getD 10 .nil) (xs.getD 11 .nil) (xs.getD 12 .nil) (xs.getD 13 .nil) (xs.getD 14 .nil) (xs.getD 15 .nil) (xs.getD 16 .nil) (xs.getD 17 .nil) (xs.getD 18 .nil) (xs.getD 19 .nil) (xs.getD 20 .nil)
def ap22 (f : C → C → C → C → C → C → C → C → C → C → C → C → C → C → C → C → C → C → C → C → C → C → R) (xs : List C) : R := f (xs.getD 0 .nil) (xs.getD 1 .nil) (xs.getD 2 .nil) (xs.getD 3 .nil) (xs.getD 4 .nil) (xs.getD 5 .nil) (xs.getD 6 .nil) (xs.getD 7 .nil) (xs.getD 8 .nil) (xs.getD 9 .nil) (xs.getD 10 .nil) (xs.getD 11 .nil) (xs.getD 12 .nil) (xs.getD 13 .nil) (xs.getD 14 .nil) (xs.getD 15 .nil) (xs.getD 16 .nil) (xs.getD 17 .nil) (xs.getD 18 .nil) (xs.getD 19 .nil) (xs.getD 20 .nil) (xs.getD 21 .nil)
def ap23 (f : C → C → C → C → C → C → C → C → C → C → C → C → C → C → C → C → C → C → C → C → C → C → C → R) (xs : List C) : R := f (xs.getD 0 .nil) (xs.getD 1 .nil) (xs.getD 2 .nil) (xs.getD 3 .nil) (xs.getD 4 .nil) (xs.getD 5 .nil) (xs.getD 6 .nil) (xs.getD 7 .nil) (xs.getD 8 .nil) (xs.getD 9 .nil) (xs.getD 10 .nil) (xs.getD 11 .nil) (xs.getD 12 .nil) (xs.getD 13 .nil) (xs.getD 14 .nil) (xs.getD 15 .nil) (xs.getD 16 .nil) (xs.getD 17 .nil) (xs.getD 18 .nil) (xs.getD 19 .nil) (xs.getD 20 .nil) (xs.getD 21 .nil) (xs.getD 22 .nil)
def ap24 (f : C → C → C → C → C → C → C → C → C → C → C → C → C → C → C → C → C → C → C → C → C → C → C → C → R) (xs : List C) : R := f (xs.getD 0 .nil) (xs.getD 1 .nil) (xs.getD 2 .nil) (xs.getD 3 .nil) (xs.getD 4 .nil) (xs.getD 5 .nil) (xs.getD 6 .nil) (xs.getD 7 .nil) (xs.getD 8 .nil) (xs.getD 9 .nil) (xs.getD 10 .nil) (xs.getD 11 .nil) (xs.getD 12 .nil) (xs.getD 13 .nil) (xs.getD 14 .nil) (xs.getD 15 .nil) (xs.getD 16 .nil) (xs.getD 17 .nil) (xs.getD 18 .nil) (xs.getD 19 .nil) (xs.getD 20 .nil) (xs.getD 21 .nil) (xs.getD 22 .nil) (xs.getD 23 .nil)
def ap25 (f : C → C → C → C → C → C → C → C → C → C → C → C → C → C → C → C → C → C → C → C → C → C → C → C → C → R) (xs : List C) : R := f (xs.getD 0 .nil) (xs.getD 1 .nil) (xs.getD 2 .nil) (xs.getD 3 .nil) (xs.getD 4 .nil) (xs.getD 5 .nil) (xs.getD 6 .nil) (xs.getD 7 .nil) (xs.getD 8 .nil) (xs.getD 9 .nil) (xs.getD 10 .nil) (xs.getD 11 .nil) (xs.getD 12 .nil) (xs.getD 13 .nil) (xs.getD 14 .nil) (xs.getD 15 .nil) (xs.getD 16 .nil) (xs.getD 17 .nil) (xs.getD 18 .nil) (xs.getD 19 .nil) (xs.getD 20 .nil) (xs.getD 21 .nil) (xs.getD 22 .nil) (xs.getD 23 .nil) (xs.getD 24 .nil)
def ap26 (f : C → C → C → C → C → C → C → C → C → C → C → C → C → C → C → C → C → C → C → C → C → C → C → C → C → C → R) (xs : List C) : R := f (xs.getD 0 .nil) (xs.getD 1 .nil) (xs.getD 2 .nil) (xs.getD 3 .nil) (xs.getD 4 .nil) (xs.getD 5 .nil) (xs.getD 6 .nil) (xs.getD 7 .nil) (xs.getD 8 .nil) (xs.getD 9 .nil) (xs.getD 10 .nil) (xs.getD 11 .nil) (xs.getD 12 .nil) (xs.getD 13 .nil) (xs.getD 14 .nil) (xs.getD 15 .nil) (xs.getD 16 .nil) (xs.getD 17 .nil) (xs.getD 18 .nil) (xs.getD 19 .nil) (xs.getD 20 .nil) (xs.getD 21 .nil) (xs.getD 22 .nil) (xs.getD 23 .nil) (xs.getD 24 .nil) (xs.getD 25 .nil)
def ap27 (f : C → C → C → C → C → C → C → C → C → C → C → C → C → C → C → C → C → C → C → C → C → C → C → C → C → C → C → R) (xs : List C) : R := f (xs.getD 0 .nil) (xs.getD 1 .nil) (xs.getD 2 .nil) (xs.getD 3 .nil) (xs.getD 4 .nil) (xs.getD 5 .nil) (xs.getD 6 .nil) (xs.getD 7 .nil) (xs.getD 8 .nil) (xs.getD 9 .nil) (xs.getD 10 .nil) (xs.getD 11 .nil) (xs.getD 12 .nil) (xs.getD 13 .nil) (xs.getD 14 .nil) (xs.getD 15 .nil) (xs.getD 16 .nil) (xs.getD 17 .nil) (xs.getD 18 .nil) (xs.getD 19 .nil) (xs.getD 20 .nil) (xs.getD 21 .nil) (xs.getD 22 .nil) (xs.getD 23 .nil) (xs.getD 24 .nil) (xs.getD 25 .nil) (xs.getD 26 .nil)
def ap28 (f : C → C → C → C → C → C → C → C → C → C → C → C → C → C → C → C → C → C → C → C → C → C → C → C → C → C → C → C → R) (xs : List C) : R := f (xs.getD 0 .nil) (xs.getD 1 .nil) (xs.getD 2 .nil) (xs.getD 3 .nil) (xs.getD 4 .nil) (xs.getD 5 .nil) (xs.getD 6 .nil) (xs.getD 7 .nil) (xs.getD 8 .nil) (xs.getD 9 .nil) (xs.getD 10 .nil) (xs.getD 11 .nil) (xs.getD 12 .nil) (xs.getD 13 .nil) (xs.getD 14 .nil) (xs.getD 15 .nil) (xs.getD 16 .nil) (xs.getD 17 .nil) (xs.getD 18 .nil) (xs.getD 19 .nil) (xs.getD 20 .nil) (xs.getD 21 .nil) (xs.getD 22 .nil) (xs.getD 23 .nil) (xs.getD 24 .nil) (xs.getD 25 .nil) (xs.getD 26 .nil) (xs.getD 27 .nil)
def ap29 (f : C → C → C → C → C → C → C → C → C → C → C → C → C → C → C → C → C → C → C → C → C → C → C → C → C → C → C → C → C → R) (xs : List C) : R := f (xs.getD 0 .nil) (xs.getD 1 .nil) (xs.getD 2 .nil) (xs.getD 3 .nil) (xs.getD 4 .nil) (xs.getD 5 .nil) (xs.getD 6 .nil) (xs.getD 7 .nil) (xs.getD 8 .nil) (xs.getD 9 .nil) (xs.getD 10 .nil) (xs.getD 11 .nil) (xs.getD 12 .nil) (xs.getD 13 .nil) (xs.getD 14 .nil) (xs.getD 15 .nil) (xs.getD 16 .nil) (xs.getD 17 .nil) (xs.getD 18 .nil) (xs.getD 19 .nil) (xs.getD 20 .nil) (xs.getD 21 .nil) (xs.getD 22 .nil) (xs.getD 23 .nil) (xs.getD 24 .nil) (xs.getD 25 .nil) (xs.getD 26 .nil) (xs.getD 27 .nil) (xs.getD 28 .nil)
def ap30 (f : C → C → C → C → C → C → C → C → C → C → C → C → C → C → C → C → C → C → C → C → C → C → C → C → C → C → C → C → C → C → R) (xs : List C) : R := f (xs.getD 0 .nil) (xs.getD 1 .nil) (xs.getD 2 .nil) (xs.getD 3 .nil) (xs.getD 4 .nil) (xs.getD 5 .nil) (xs.getD 6 .nil) (xs.getD 7 .nil) (xs.getD 8 .nil) (xs.getD 9 .nil) (xs.getD 10 .nil) (xs.getD 11 .nil) (xs.getD 12 .nil) (xs.getD 13 .nil) (xs.getD 14 .nil) (xs.getD 15 .nil) (xs.getD 16 .nil) (xs.getD 17 .nil) (xs.getD 18 .nil) (xs.getD 19 .nil) (xs.getD 20 .nil) (xs.getD 21 .nil) (xs.getD 22 .nil) (xs.getD 23 .nil) (xs.getD 24 .nil) (xs.getD 25 .nil) (xs.getD 26 .nil) (xs.getD 27 .nil) (xs.getD 28 .nil) (xs.getD 29 .nil)
def ap31 (f : C → C → C → C → C → C → C → C → C → C → C → C → C → C → C → C → C → C → C → C → C → C → C → C → C → C → C → C → C → C → C → R) (xs : List C) : R := f (xs.getD 0 .nil) (xs.getD 1 .nil) (xs.getD 2 .nil) (xs.getD 3 .nil) (xs.getD 4 .nil) (xs.getD 5 .nil) (xs.getD 6 .nil) (xs.getD 7 .nil) (xs.getD 8 .nil) (xs.getD 9 .nil) (xs.getD 10 .nil) (xs.getD 11 .nil) (xs.getD 12 .nil) (xs.getD 13 .nil) (xs.getD 14 .nil) (xs.getD 15 .nil) (xs.getD 16 .nil) (xs.getD 17 .nil) (xs.getD 18 .nil) (xs.getD 19 .nil) (xs.getD 20 .nil) (xs.getD 21 .nil) (xs.getD 22 .nil) (xs.getD 23 .nil) (xs.getD 24 .nil) (xs.getD 25 .nil) (xs.getD 26 .nil) (xs.getD 27 .nil) (xs.getD 28 .nil) (xs.getD 29 .nil) (xs.getD 30 .nil)
def ap32 (f : C → C → C → C → C → C → C → C → C → C → C → C → C → C → C → C → C → C → C → C → C → C → C → C → C → C → C → C → C → C → C → C → R) (xs : List C) : R := f (xs.getD 0 .nil) (xs.getD 1 .nil) (xs.getD 2 .nil) (xs.getD 3 .nil) (xs.getD 4 .nil) (xs.getD 5 .nil) (xs.getD 6 .nil) (xs.getD 7 .nil) (xs.getD 8 .nil) (xs.getD 9 .nil) (xs.getD 10 .nil) (xs.getD 11 .nil) (xs.getD 12 .nil) (xs.getD 13 .nil) (xs.getD 14 .nil) (xs.getD 15 .nil) (xs.getD 16 .nil) (xs.getD 17 .nil) (xs.getD 18 .nil) (xs.getD 19 .nil) (xs.getD 20 .nil) (xs.getD 21 .nil) (xs.getD 22 .nil) (xs.getD 23 .nil) (xs.getD 24 .nil) (xs.getD 25 .nil) (xs.getD 26 .nil) (xs.getD 27 .nil) (xs.getD 28 .nil) (xs.getD 29 .nil) (xs.getD 30 .nil) (xs.getD 31 .nil)
def ap33 (f : C → C → C → C → C → C → C → C → C → C → C → C → C → C → C → C → C → C → C → C → C → C → C → C → C → C → C → C → C → C → C → C → C → R) (xs : List C) : R := f (xs.getD 0 .nil) (xs.getD 1 .nil) (xs.getD 2 .nil) (xs.getD 3 .nil) (xs.getD 4 .nil) (xs.getD 5 .nil) (xs.getD 6 .nil) (xs.getD 7 .nil) (xs.getD 8 .nil) (xs.getD 9 .nil) (xs.getD 10 .nil) (xs.getD 11 .nil) (xs.getD 12 .nil) (xs.getD 13 .nil) (xs.getD 14 .nil) (xs.getD 15 .nil) (xs.getD 16 .nil) (xs.getD 17 .nil) (xs.getD 18 .nil) (xs.getD 19 .nil) (xs.getD 20 .nil) (xs.getD 21 .nil) (xs.getD 22 .nil) (xs.getD 23 .nil) (xs.getD 24 .nil) (xs.getD 25 .nil) (xs.getD 26 .nil) (xs.getD 27 .nil) (xs.getD 28 .nil) (xs.getD 29 .nil) (xs.getD 30 .nil) (xs.getD 31 .nil) (xs.getD 32 .nil)
def ap34 (f : C → C → C → C → C → C → C → C → C → C → C → C → C → C → C → C → C → C → C → C → C → C → C → C → C → C → C → C → C → C → C → C → C → C → R) (xs : List C) : R := f (xs.getD 0 .nil) (xs.getD 1 .nil) (xs.getD 2 .nil) (xs.getD 3 .nil) (xs.getD 4 .nil) (xs.getD 5 .nil) (xs.getD 6 .nil) (xs.getD 7 .nil) (xs.getD 8 .nil) (xs.getD 9 .nil) (xs.getD 10 .nil) (xs.getD 11 .nil) (xs.getD 12 .nil) (xs.getD 13 .nil) (xs.getD 14 .nil) (xs.getD 15 .nil) (xs.getD 16 .nil) (xs.getD 17 .nil) (xs.getD 18 .nil) (xs.getD 19 .nil) (xs.getD 20 .nil) (xs.getD 21 .nil) (xs.getD 22 .nil) (xs.getD 23 .nil) (xs.getD 24 .nil) (xs.getD 25 .nil) (xs.getD 26 .nil) (xs.getD 27 .nil) (xs.getD 28 .nil) (xs.getD 29 .nil) (xs.getD 30 .nil) (xs.getD 31 .nil) (xs.getD 32 .nil) (xs.getD 33 .nil)
def ap35 (f : C → C → C → C → C → C → C → C → C → C → C → C → C → C → C → C → C → C → C → C → C → C → C → C → C → C → C → C → C → C → C → C → C → C → C → R) (xs : List C) : R := f (xs.getD 0 .nil) (xs.getD 1 .nil) (xs.getD 2 .nil) (xs.getD 3 .nil) (xs.getD 4 .nil) (xs.getD 5 .nil) (xs.getD 6 .nil) (xs.getD 7 .nil) (xs.getD 8 .nil) (xs.getD 9 .nil) (xs.getD 10 .nil) (xs.getD 11 .nil) (xs.getD 12 .nil) (xs.getD 13 .nil) (xs.getD 14 .nil) (xs.getD 15 .nil) (xs.getD 16 .nil) (xs.getD 17 .nil) (xs.getD 18 .nil) (xs.getD 19 .nil) (xs.getD 20 .nil) (xs.getD 21 .nil) (xs.getD 22 .nil) (xs.getD 23 .nil) (xs.getD 24 .nil) (xs.getD 25 .nil) (xs.getD 26 .nil) (xs.getD 27 .nil) (xs.getD 28 .nil) (xs.getD 29 .nil) (xs.getD 30 .nil) (xs.getD 31 .nil) (xs.getD 32 .nil) (xs.getD 33 .nil) (xs.getD 34 .nil)
def ap36 (f : C → C → C → C → C → C → C → C → C → C → C → C → C → C → C → C → C → C → C → C → C → C → C → C → C → C → C → C → C → C → C → C → C → C → C → C → R) (xs : List C) : R := f (xs.getD 0 .nil) (xs.getD 1 .nil) (xs.getD 2 .nil) (xs.getD 3 .nil) (xs.getD 4 .nil) (xs.getD 5 .nil) (xs.getD 6 .nil) (xs.getD 7 .nil) (xs.getD 8 .nil) (xs.getD 9 .nil) (xs.getD 10 .nil) (xs.getD 11 .nil) (xs.getD 12 .nil) (xs.getD 13 .nil) (xs.getD 14 .nil) (xs.getD 15 .nil) (xs.getD 16 .nil) (xs.getD 17 .nil) (xs.getD 18 .nil) (xs.getD 19 .nil) (xs.getD 20 .nil) (xs.getD 21 .nil) (xs.getD 22 .nil) (xs.getD 23 .nil) (xs.getD 24 .nil) (xs.getD 25 .nil) (xs.getD 26 .nil) (xs.getD 27 .nil) (xs.getD 28 .nil) (xs.getD 29 .nil) (xs.getD 30 .nil) (xs.getD 31 .nil) (xs.getD 32 .nil) (xs.getD 33 .nil) (xs.getD 34 .nil) (xs.getD 35 .nil)
def ap37 (f : C → C → C → C → C → C → C → C → C → C → C → C → C → C → C → C → C → C → C → C → C → C → C → C → C → C → C → C → C → C → C → C → C → C → C → C → C → R) (xs : List C) : R := f (xs.getD 0 .nil) (xs.getD 1 .nil) (xs.getD 2 .nil) (xs.getD 3 .nil) (xs.getD 4 .nil) (xs.getD 5 .nil) (xs.getD 6 .nil) (xs.getD 7 .nil) (xs.getD 8 .nil) (xs.getD 9 .nil) (xs.getD 10 .nil) (xs.getD 11 .nil) (xs.getD 12 .nil) (xs.getD 13 .nil) (xs.getD 14 .nil) (xs.getD 15 .nil) (xs.getD 16 .nil) (xs.getD 17 .nil) (xs.getD 18 .nil) (xs.getD 19 .nil) (xs.getD 20 .nil) (xs.getD 21 .nil) (xs.getD 22 .nil) (xs.getD 23 .nil) (xs.getD 24 .nil) (xs.getD 25 .nil) (xs.getD 26 .nil) (xs.getD 27 .nil) (xs.getD 28 .nil) (xs.getD 29 .nil) (xs.getD 30 .nil) (xs.getD 31 .nil) (xs.getD 32 .nil) (xs.getD 33 .nil) (xs.getD 34 .nil) (xs.getD 35 .nil) (xs.getD 36 .nil)
def ap38 (f : C → C → C → C → C → C → C → C → C → C → C → C → C → C → C → C → C → C → C → C → C → C → C → C → C → C → C → C → C → C → C → C → C → C → C → C → C → C → R) (xs : List C) : R := f (xs.getD 0 .nil) (xs.getD 1 .nil) (xs.getD 2 .nil) (xs.getD 3 .nil) (xs.getD 4 .nil) (xs.getD 5 .nil) (xs.getD 6 .nil) (xs.getD 7 .nil) (xs.getD 8 .nil) (xs.getD 9 .nil) (xs.getD 10 .nil) (xs.getD 11 .nil) (xs.getD 12 .nil) (xs.getD 13 .nil) (xs.getD 14 .nil) (xs.getD 15 .nil) (xs.getD 16 .nil) (xs.getD 17 .nil) (xs.getD 18 .nil) (xs.getD 19 .nil) (xs.getD 20 .nil) (xs.getD 21 .nil) (xs.getD 22 .nil) (xs.getD 23 .nil) (xs.getD 24 .nil) (xs.getD 25 .nil) (xs.getD 26 .nil) (xs.getD 27 .nil) (xs.getD 28 .nil) (xs.getD 29 .nil) (xs.getD 30 .nil) (xs.getD 31 .nil) (xs.getD 32 .nil) (xs.getD 33 .nil) (xs.getD 34 .nil) (xs.getD 35 .nil) (xs.getD 36 .nil) (xs.getD 37 .nil)
def ap39 (f : C → C → C → C → C → C → C → C → C → C → C → C → C → C → C → C → C → C → C → C → C → C → C → C → C → C → C → C → C → C → C → C → C → C → C → C → C → C → C → R) (xs : List C) : R := f (xs.getD 0 .nil) (xs.getD 1 .nil) (xs.getD 2 .nil) (xs.getD 3 .nil) (xs.getD 4 .nil) (xs.getD 5 .nil) (xs.getD 6 .nil) (xs.getD 7 .nil) (xs.getD 8 .nil) (xs.getD 9 .nil) (xs.getD 10 .nil) (xs.getD 11 .nil) (xs.getD 12 .nil) (xs.getD 13 .nil) (xs.getD 14 .nil) (xs.getD 15 .nil) (xs.getD 16 .nil) (xs.getD 17 .nil) (xs.getD 18 .nil) (xs.getD 19 .nil) (xs.getD 20 .nil) (xs.getD 21 .nil) (xs.getD 22 .nil) (xs.getD 23 .nil) (xs.getD 24 .nil) (xs.getD 25 .nil) (xs.getD 26 .nil) (xs.getD 27 .nil) (xs.getD 28 .nil) (xs.getD 29 .nil) (xs.getD 30 .nil) (xs.getD 31 .nil) (xs.getD 32 .nil) (xs.getD 33 .nil) (xs.getD 34 .nil) (xs.getD 35 .nil) (xs.getD 36 .nil) (xs.getD 37 .nil) (xs.getD 38 .nil)
def ap40 (f : C → C → C → C → C → C → C → C → C → C → C → C → C → C → C → C → C → C → C → C → C → C → C → C → C → C → C → C → C → C → C → C → C → C → C → C → C → C → C → C → R) (xs : List C) : R := f (xs.getD 0 .nil) (xs.getD 1 .nil) (xs.getD 2 .nil) (xs.getD 3 .nil) (xs.getD 4 .nil) (xs.getD 5 .nil) (xs.getD 6 .nil) (xs.getD 7 .nil) (xs.getD 8 .nil) (xs.getD 9 .nil) (xs.getD 10 .nil) (xs.getD 11 .nil) (xs.getD 12 .nil) (xs.getD 13 .nil) (xs.getD 14 .nil) (xs.getD 15 .nil) (xs.getD 16 .nil) (xs.getD 17 .nil) (xs.getD 18 .nil) (xs.getD 19 .nil) (xs.getD 20 .nil) (xs.getD 21 .nil) (xs.getD 22 .nil) (xs.getD 23 .nil) (xs.getD 24 .nil) (xs.getD 25 .nil) (xs.getD 26 .nil) (xs.getD 27 .nil) (xs.getD 28 .nil) (xs.getD 29 .nil) (xs.getD 30 .nil) (xs.getD 31 .nil) (xs.getD 32 .nil) (xs.getD 33 .nil) (xs.getD 34 .nil) (xs.getD 35 .nil) (xs.getD 36 .nil) (xs.getD 37 .nil) (xs.getD 38 .nil) (xs.getD 39 .nil)
def phi : List (Nat × Option Nat × FS) → FuncId → Option Tmp → Option FS
  | [], _, _ => none
  | (g, d, fs) :: r, f, o => sif (andS (Nat.beq g f) (onb d o)) (some fs) (phi r f o)
def PhiOk (P : Program) (T : Tys) : List (Nat × Option Nat × FS) → Prop
  | [] => True
  | (g, _, fs) :: r => FSOk P T g fs ∧ PhiOk P T r
theorem PhiOk.nil {P : Program} {T : Tys} : PhiOk P T [] := trivial
theorem PhiOk.cons {P : Program} {T : Tys} {g : FuncId} {d : Option Nat} {fs : FS} {r : List (Nat × Option Nat × FS)} (h : FSOk P T g fs) (hr : PhiOk P T r) : PhiOk P T ((g, d, fs) :: r) := ⟨h, hr⟩
theorem phi_ok {P : Program} {T : Tys} : ∀ {l : List (Nat × Option Nat × FS)}, PhiOk P T l → ∀ f d fs, phi l f d = some fs → FSOk P T f fs
  | [], _, f, d, fs, h => by simp [phi] at h
  | (g, d', fs') :: r, hl, f, d, fs, h => by
    replace h : sif (andS (Nat.beq g f) (onb d' d)) (some fs') (phi r f d) = some fs := h
    cases hc : andS (Nat.beq g f) (onb d' d) with
    | true =>
      rw [hc, sif_true] at h
      simp only [andS_eq, Bool.and_eq_true] at hc
      have e := Nat.eq_of_beq_eq_true hc.1
      subst e
      obtain rfl := Option.some.inj h
      exact hl.1
    | false => rw [hc, sif_false] at h; exact phi_ok hl.2 f d fs h
def mpsB (P : Program) : List (Nat × Nat) → Bool
  | [] => true
  | (t, e) :: r => (match P.underlying t with | some (.map k e') => (match P.underlying k with | some .string => e == e' | _ => false) | _ => false) && mpsB P r
theorem mpsB_ok {P : Program} : ∀ {l : List (Nat × Nat)}, mpsB P l = true → MOk P l
  | [], _, t, e, h => by simp [mpget] at h
  | (t', e') :: r, hb, t, e, h => by
    simp only [mpsB, Bool.and_eq_true] at hb
    replace h : sif (Nat.beq t' t) (some e') (mpget r t) = some e := h
    cases hc : Nat.beq t' t with
    | false => rw [hc, sif_false] at h; exact mpsB_ok hb.2 t e h
    | true =>
      rw [hc, sif_true] at h
      obtain rfl := Option.some.inj h
      have := Nat.eq_of_beq_eq_true hc; subst this
      have h1 := hb.1
      split at h1
      · rename_i k e2 hu
        split at h1
        · rename_i hk
          have : e' = e2 := by simpa using h1
          subst this
          exact ⟨k, hu, hk⟩
        · simp at h1
      · simp at h1
structure Base (P : Program) (T : Tys) (eqT : List Nat) (mp : List (Nat × Nat)) : Prop where
  tok : TOk P T
  E : ∀ t e, elemOf? T t = some e → (P.info? e).isSome = true
  mixed : P.follows .mixedOrders = true
  Q : ∀ t, memb eqT t = true → EqOk P T t
  M : MOk P mp
theorem Base.of {P : Program} {T : Tys} {eqT : List Nat} {mp : List (Nat × Nat)} (h1 : tysB P T T = true) (h2 : P.follows .mixedOrders = true) (h3 : eqsB P T eqT = true) (h4 : mpsB P mp = true) : Base P T eqT mp :=
  ⟨(tysB_ok h1).1, (tysB_ok h1).2, h2, eqsB_ok h3, mpsB_ok h4⟩
def slB (n : Nat) : List (Nat × Sk) → Bool | [] => true | (d, _) :: r => andS (Nat.blt d n) (slB n r)
theorem instSl_out {nm : Nm} {xs : List C} {n : Nat} : ∀ {l : List (Nat × Sk)} {p : Nat} {f : Slots}, slB n l = true → (∀ k, n ≤ k → f k = .un) → ∀ k, n ≤ k → (instSl nm xs l p f).1 k = .un
  | [], p, f, _, hf, k, hk => hf k hk
  | (d, q) :: r, p, f, h, hf, k, hk => by
    simp only [slB, andS_eq, Bool.and_eq_true] at h
    refine instSl_out h.2 (fun k hk => ?_) k hk
    have hd : d < n := Nat.le_of_ble_eq_true h.1
    rw [upd_ne _ _ (by omega)]
    exact hf k hk
def stat (fn : Func) (fs : FS) : Bool := andS (notS (fn.name == "runtime.NumGoroutine")) (andS (Nat.ble fs.n fn.ntmps) (slB fs.n fs.inT.sl))
theorem okOf {P : Program} {T : Tys} {eqT : List Nat} {mp : List (Nat × Nat)} (B : Base P T eqT mp) {f : FuncId} {fn : Func} {c : Code} (fs : FS) (an : Ann) (l : List (Nat × Option Nat × FS)) (hl : PhiOk P T l)
    (hf : P.funcs[f]? = some fn) (hb : fn.body = some c) (hs : stat fn fs = true)
    (hF : ∀ xs, evF ⟨T, phi l, fn.ntmps, fn.results.toList, fs.inT, fs.outT, fs.ip, eqT, mp⟩ c an xs = fs.F xs) : FSOk P T f fs := by
  simp only [stat, andS_eq, notS_eq, Bool.and_eq_true, Bool.not_eq_true'] at hs
  exact FSOk.of_ev (X := ⟨T, phi l, fn.ntmps, fn.results.toList, fs.inT, fs.outT, fs.ip, eqT, mp⟩) ⟨B.tok, B.E, phi_ok hl, B.Q, B.M, B.mixed⟩ hf hb hs.1 rfl rfl rfl rfl rfl (Nat.le_of_ble_eq_true hs.2.1)
    (fun xs k hk => instSl_out hs.2.2 (fun _ _ => rfl) k hk) (fun xs ys h => by rw [hF]; exact h)
theorem noneOk {P : Program} {T : Tys} {f : FuncId} {fn : Func} {c : Code} (n : Nat) (i o : Tm) (ip : List Nat) (hf : P.funcs[f]? = some fn) (hb : fn.body = some c) (hs : stat fn ⟨n, i, o, ip, fun _ => none⟩ = true) : FSOk P T f ⟨n, i, o, ip, fun _ => none⟩ := by
  simp only [stat, andS_eq, notS_eq, Bool.and_eq_true, Bool.not_eq_true'] at hs
  exact ⟨⟨fn, c, hf, hb, hs.1⟩, fun w wr F0 θ xs ys args h1 h2 h3 h4 => absurd h4 (by simp)⟩
noncomputable def FUEL : Nat := Classical.choose (⟨1000000, Nat.le_refl _⟩ : ∃ n, 1000000 ≤ n)
theorem FUEL_ge : 1000000 ≤ FUEL := Classical.choose_spec (⟨1000000, Nat.le_refl _⟩ : ∃ n, 1000000 ≤ n)
end Go.Ev
namespace Go.Ev
@[simp] theorem C.I_i (n : Int) : (C.i n).I = n := rfl
@[simp] theorem C.B_b (x : Bool) : (C.b x).B = x := rfl
@[simp] theorem C.S_s (x : ByteArray) : (C.s x).S = x := rfl
@[simp] theorem C.L_l (x : List (List C)) : (C.l x).L = x := rfl
@[simp] theorem C.P_p (x : List C) : (C.p x).P = x := rfl
@[simp] theorem C.isP_p (x : List C) : (C.p x).isP = true := rfl
@[simp] theorem C.isP_nil : C.nil.isP = false := rfl
@[simp] theorem C.L_nil : C.nil.L = [] := rfl
@[simp] theorem finR_ret (ys : List C) : finR (some (.ret ys)) = some ys := rfl
@[simp] theorem bindF_some (ys : List C) (K : List C → R) : bindF (some ys) K = K ys := rfl
@[simp] theorem bindNrm_nrm (xs : List C) (K : List C → R) : bindNrm (some (.nrm xs)) K = K xs := rfl
@[simp] theorem bindNrm_ret (xs : List C) (K : List C → R) : bindNrm (some (.ret xs)) K = some (.ret xs) := rfl
@[simp] theorem bindNrm_brk (i : Nat) (xs : List C) (K : List C → R) : bindNrm (some (.brk i xs)) K = some (.brk i xs) := rfl
@[simp] theorem bindNrm_again (xs : List C) (K : List C → R) : bindNrm (some (.again xs)) K = some (.again xs) := rfl
@[simp] theorem bindBlk_ret (i : Nat) (xs : List C) (K : List C → R) : bindBlk i (some (.ret xs)) K = some (.ret xs) := rfl
@[simp] theorem bindBlk_again (i : Nat) (xs : List C) (K : List C → R) : bindBlk i (some (.again xs)) K = some (.again xs) := rfl
@[simp] theorem bindBlk_nrm (i : Nat) (xs : List C) (K : List C → R) : bindBlk i (some (.nrm xs)) K = some (.nrm xs) := rfl
theorem bindBlk_brk (i j : Nat) (xs : List C) (K : List C → R) : bindBlk i (some (.brk j xs)) K = if j = i then K xs else some (.brk j xs) := by
  show sif (Nat.beq j i) (K xs) (some (.brk j xs)) = _
  by_cases h : j = i
  · subst h; rw [Nat.beq_refl, sif_true, if_pos rfl]
  · have : Nat.beq j i = false := by
      cases hb : Nat.beq j i with
      | false => rfl
      | true => exact absurd (Nat.eq_of_beq_eq_true hb) h
    rw [this, sif_false, if_neg h]
@[simp] theorem bindBlk_self (i : Nat) (xs : List C) (K : List C → R) : bindBlk i (some (.brk i xs)) K = K xs := by rw [bindBlk_brk, if_pos rfl]
attribute [simp] nils
attribute [simp] rows
@[simp] theorem Int_toNat_nat (n : Nat) : ((n : Int)).toNat = n := Int.toNat_natCast n
theorem jA {α : Type} {a : α} {us vs : List α} : a :: us ++ vs = a :: (us ++ vs) := rfl
theorem jB {α : Type} (us : List α) : [] ++ us = us := rfl
theorem jC {α : Type} {x : α} {xs : List α} {d : α} : (x :: xs).getD 0 d = x := List.getD_cons_zero
theorem jD {α : Type} {x : α} {xs : List α} {n : Nat} {d : α} : (x :: xs).getD (n + 1) d = xs.getD n d := List.getD_cons_succ
theorem jE (n : Int) : (C.i n).I = n := rfl
theorem jF (x : Bool) : (C.b x).B = x := rfl
theorem jG (x : ByteArray) : (C.s x).S = x := rfl
theorem jH (x : List (List C)) : (C.l x).L = x := rfl
theorem jI (ys : List C) (K : List C → R) : bindF (some ys) K = K ys := rfl
theorem jJ (xs : List C) (K : List C → R) : bindNrm (some (.nrm xs)) K = K xs := rfl
theorem jK (xs : List C) (K : List C → R) : bindNrm (some (.ret xs)) K = some (.ret xs) := rfl
theorem jL (xs : List C) (K : List C → R) : bindNrm (some (.again xs)) K = some (.again xs) := rfl
theorem jM (i : Nat) (xs : List C) (K : List C → R) : bindNrm (some (.brk i xs)) K = some (.brk i xs) := rfl
theorem jN (i : Nat) (xs : List C) (K : List C → R) : bindBlk i (some (.brk i xs)) K = K xs := bindBlk_self i xs K
theorem jO (i : Nat) (xs : List C) (K : List C → R) : bindBlk i (some (.ret xs)) K = some (.ret xs) := rfl
theorem jP (i : Nat) (xs : List C) (K : List C → R) : bindBlk i (some (.again xs)) K = some (.again xs) := rfl
theorem jQ (i : Nat) (xs : List C) (K : List C → R) : bindBlk i (some (.nrm xs)) K = some (.nrm xs) := rfl
theorem jR {α : Type} (a b : α) : (bif true then a else b) = a := rfl
theorem jS {α : Type} (a b : α) : (bif false then a else b) = b := rfl
theorem jT (h : Decidable True) : decide True = true := decide_true h
theorem jU (h : Decidable False) : decide False = false := decide_false h
theorem jV (ys : List C) : finR (some (.ret ys)) = some ys := rfl
theorem jW {α β : Type} {us : List α} (f : α → β) : (List.map f us).length = us.length := List.length_map f
theorem jX (n : Nat) : 0 ≤ (n : Int) := Int.natCast_nonneg n
theorem jY (n : Nat) : ((n : Int)).toNat = n := Int.toNat_natCast n
theorem jZ : (!true) = false := rfl
theorem ja : (!false) = true := rfl
theorem jb {α : Type} {a : α} : [a].length = 1 := rfl
theorem jc {α : Type} : ([] : List α).length = 0 := rfl
theorem jd (n : Nat) : 0 + n = n := Nat.zero_add n
theorem apL : (∀ (f : C → R) xs, ap1 f xs = f (xs.getD 0 .nil)) ∧
 (∀ (f : C → C → R) xs, ap2 f xs = f (xs.getD 0 .nil) (xs.getD 1 .nil)) ∧
 (∀ (f : C → C → C → R) xs, ap3 f xs = f (xs.getD 0 .nil) (xs.getD 1 .nil) (xs.getD 2 .nil)) ∧
 (∀ (f : C → C → C → C → R) xs, ap4 f xs = f (xs.getD 0 .nil) (xs.getD 1 .nil) (xs.getD 2 .nil) (xs.getD 3 .nil)) ∧
 (∀ (f : C → C → C → C → C → R) xs, ap5 f xs = f (xs.getD 0 .nil) (xs.getD 1 .nil) (xs.getD 2 .nil) (xs.getD 3 .nil) (xs.getD 4 .nil)) ∧
 (∀ (f : C → C → C → C → C → C → R) xs, ap6 f xs = f (xs.getD 0 .nil) (xs.getD 1 .nil) (xs.getD 2 .nil) (xs.getD 3 .nil) (xs.getD 4 .nil) (xs.getD 5 .nil)) ∧
 (∀ (f : C → C → C → C → C → C → C → R) xs, ap7 f xs = f (xs.getD 0 .nil) (xs.getD 1 .nil) (xs.getD 2 .nil) (xs.getD 3 .nil) (xs.getD 4 .nil) (xs.getD 5 .nil) (xs.getD 6 .nil)) ∧
 (∀ (f : C → C → C → C → C → C → C → C → R) xs, ap8 f xs = f (xs.getD 0 .nil) (xs.getD 1 .nil) (xs.getD 2 .nil) (xs.getD 3 .nil) (xs.getD 4 .nil) (xs.getD 5 .nil) (xs.getD 6 .nil) (xs.getD 7 .nil)) ∧
 (∀ (f : C → C → C → C → C → C → C → C → C → R) xs, ap9 f xs = f (xs.getD 0 .nil) (xs.getD 1 .nil) (xs.getD 2 .nil) (xs.getD 3 .nil) (xs.getD 4 .nil) (xs.getD 5 .nil) (xs.getD 6 .nil) (xs.getD 7 .nil) (xs.getD 8 .nil)) ∧
 (∀ (f : C → C → C → C → C → C → C → C → C → C → R) xs, ap10 f xs = f (xs.getD 0 .nil) (xs.getD 1 .nil) (xs.getD 2 .nil) (xs.getD 3 .nil) (xs.getD 4 .nil) (xs.getD 5 .nil) (xs.getD 6 .nil) (xs.getD 7 .nil) (xs.getD 8 .nil) (xs.getD 9 .nil)) ∧
 (∀ (f : C → C → C → C → C → C → C → C → C → C → C → R) xs, ap11 f xs = f (xs.getD 0 .nil) (xs.getD 1 .nil) (xs.getD 2 .nil) (xs.getD 3 .nil) (xs.getD 4 .nil) (xs.getD 5 .nil) (xs.getD 6 .nil) (xs.getD 7 .nil) (xs.getD 8 .nil) (xs.getD 9 .nil) (xs.getD 10 .nil)) ∧
 (∀ (f : C → C → C → C → C → C → C → C → C → C → C → C → R) xs, ap12 f xs = f (xs.getD 0 .nil) (xs.getD 1 .nil) (xs.getD 2 .nil) (xs.getD 3 .nil) (xs.getD 4 .nil) (xs.getD 5 .nil) (xs.getD 6 .nil) (xs.getD 7 .nil) (xs.getD 8 .nil) (xs.getD 9 .nil) (xs.getD 10 .nil) (xs.getD 11 .nil)) ∧
 (∀ (f : C → C → C → C → C → C → C → C → C → C → C → C → C → R) xs, ap13 f xs = f (xs.getD 0 .nil) (xs.getD 1 .nil) (xs.getD 2 .nil) (xs.getD 3 .nil) (xs.getD 4 .nil) (xs.getD 5 .nil) (xs.getD 6 .nil) (xs.getD 7 .nil) (xs.getD 8 .nil) (xs.getD 9 .nil) (xs.getD 10 .nil) (xs.getD 11 .nil) (xs.getD 12 .nil)) ∧
 (∀ (f : C → C → C → C → C → C → C → C → C → C → C → C → C → C → R) xs, ap14 f xs = f (xs.getD 0 .nil) (xs.getD 1 .nil) (xs.getD 2 .nil) (xs.getD 3 .nil) (xs.getD 4 .nil) (xs.getD 5 .nil) (xs.getD 6 .nil) (xs.getD 7 .nil) (xs.getD 8 .nil) (xs.getD 9 .nil) (xs.getD 10 .nil) (xs.getD 11 .nil) (xs.getD 12 .nil) (xs.getD 13 .nil)) ∧
 (∀ (f : C → C → C → C → C → C → C → C → C → C → C → C → C → C → C → R) xs, ap15 f xs = f (xs.getD 0 .nil) (xs.getD 1 .nil) (xs.getD 2 .nil) (xs.getD 3 .nil) (xs.getD 4 .nil) (xs.getD 5 .nil) (xs.getD 6 .nil) (xs.getD 7 .nil) (xs.getD 8 .nil) (xs.getD 9 .nil) (xs.getD 10 .nil) (xs.getD 11 .nil) (xs.getD 12 .nil) (xs.getD 13 .nil) (xs.getD 14 .nil)) ∧
 (∀ (f : C → C → C → C → C → C → C → C → C → C → C → C → C → C → C → C → R) xs, ap16 f xs = f (xs.getD 0 .nil) (xs.getD 1 .nil) (xs.getD 2 .nil) (xs.getD 3 .nil) (xs.getD 4 .nil) (xs.getD 5 .nil) (xs.getD 6 .nil) (xs.getD 7 .nil) (xs.getD 8 .nil) (xs.getD 9 .nil) (xs.getD 10 .nil) (xs.getD 11 .nil) (xs.getD 12 .nil) (xs.getD 13 .nil) (xs.getD 14 .nil) (xs.getD 15 .nil)) ∧
 (∀ (f : C → C → C → C → C → C → C → C → C → C → C → C → C → C → C → C → C → R) xs, ap17 f xs = f (xs.getD 0 .nil) (xs.getD 1 .nil) (xs.getD 2 .nil) (xs.getD 3 .nil) (xs.getD 4 .nil) (xs.getD 5 .nil) (xs.getD 6 .nil) (xs.getD 7 .nil) (xs.getD 8 .nil) (xs.getD 9 .nil) (xs.getD 10 .nil) (xs.getD 11 .nil) (xs.getD 12 .nil) (xs.getD 13 .nil) (xs.getD 14 .nil) (xs.getD 15 .nil) (xs.getD 16 .nil)) ∧
 (∀ (f : C → C → C → C → C → C → C → C → C → C → C → C → C → C → C → C → C → C → R) xs, ap18 f xs = f (xs.getD 0 .nil) (xs.getD 1 .nil) (xs.getD 2 .nil) (xs.getD 3 .nil) (xs.getD 4 .nil) (xs.getD 5 .nil) (xs.getD 6 .nil) (xs.getD 7 .nil) (xs.getD 8 .nil) (xs.getD 9 .nil) (xs.getD 10 .nil) (xs.getD 11 .nil) (xs.getD 12 .nil) (xs.getD 13 .nil) (xs.getD 14 .nil) (xs.getD 15 .nil) (xs.getD 16 .nil) (xs.getD 17 .nil)) ∧
 (∀ (f : C → C → C → C → C → C → C → C → C → C → C → C → C → C → C → C → C → C → C → R) xs, ap19 f xs = f (xs.getD 0 .nil) (xs.getD 1 .nil) (xs.getD 2 .nil) (xs.getD 3 .nil) (xs.getD 4 .nil) (xs.getD 5 .nil) (xs.getD 6 .nil) (xs.getD 7 .nil) (xs.getD 8 .nil) (xs.getD 9 .nil) (xs.getD 10 .nil) (xs.getD 11 .nil) (xs.getD 12 .nil) (xs.getD 13 .nil) (xs.getD 14 .nil) (xs.getD 15 .nil) (xs.getD 16 .nil) (xs.getD 17 .nil) (xs.getD 18 .nil)) ∧
 (∀ (f : C → C → C → C → C → C → C → C → C → C → C → C → C → C → C → C → C → C → C → C → R) xs, ap20 f xs = f (xs.getD 0 .nil) (xs.getD 1 .nil) (xs.getD 2 .nil) (xs.getD 3 .nil) (xs.getD 4 .nil) (xs.getD 5 .nil) (xs.getD 6 .nil) (xs.getD 7 .nil) (xs.getD 8 .nil) (xs.getD 9 .nil) (xs.getD 10 .nil) (xs.getD 11 .nil) (xs.getD 12 .nil) (xs.getD 13 .nil) (xs.getD 14 .nil) (xs.getD 15 .nil) (xs.getD 16 .nil) (xs.getD 17 .nil) (xs.getD 18 .nil) (xs.getD 19 .nil)) ∧
 (∀ (f : C → C → C → C → C → C → C → C → C → C → C → C → C → C → C → C → C → C → C → C → C → R) xs, ap21 f xs = f (xs.getD 0 .nil) (xs.getD 1 .nil) (xs.getD 2 .nil) (xs.getD 3 .nil) (xs.getD 4 .nil) (xs.getD 5 .nil) (xs.getD 6 .nil) (xs.getD 7 .nil) (xs.getD 8 .nil) (xs.getD 9 .nil) (xs.getD 10 .nil) (xs.getD 11 .nil) (xs.getD 12 .nil) (xs.getD 13 .nil) (xs.getD 14 .nil) (xs.getD 15 .nil) (xs.getD 16 .nil) (xs.getD 17 .nil) (xs.getD 18 .nil) (xs.getD 19 .nil) (xs.getD 20 .nil)) ∧
 (∀ (f : C → C → C → C → C → C → C → C → C → C → C → C → C → C → C → C → C → C → C → C → C → C → R) xs, ap22 f xs = f (xs.getD 0 .nil) (xs.getD 1 .nil) (xs.getD 2 .nil) (xs.getD 3 .nil) (xs.getD 4 .nil) (xs.getD 5 .nil) (xs.getD 6 .nil) (xs.getD 7 .nil) (xs.getD 8 .nil) (xs.getD 9 .nil) (xs.getD 10 .nil) (xs.getD 11 .nil) (xs.getD 12 .nil) (xs.getD 13 .nil) (xs.getD 14 .nil) (xs.getD 15 .nil) (xs.getD 16 .nil) (xs.getD 17 .nil) (xs.getD 18 .nil) (xs.getD 19 .nil) (xs.getD 20 .nil) (xs.getD 21 .nil)) ∧
 (∀ (f : C → C → C → C → C → C → C → C → C → C → C → C → C → C → C → C → C → C → C → C → C → C → C → R) xs, ap23 f xs = f (xs.getD 0 .nil) (xs.getD 1 .nil) (xs.getD 2 .nil) (xs.getD 3 .nil) (xs.getD 4 .nil) (xs.getD 5 .nil) (xs.getD 6 .nil) (xs.getD 7 .nil) (xs.getD 8 .nil) (xs.getD 9 .nil) (xs.getD 10 .nil) (xs.getD 11 .nil) (xs.getD 12 .nil) (xs.getD 13 .nil) (xs.getD 14 .nil) (xs.getD 15 .nil) (xs.getD 16 .nil) (xs.getD 17 .nil) (xs.getD 18 .nil) (xs.getD 19 .nil) (xs.getD 20 .nil) (xs.getD 21 .nil) (xs.getD 22 .nil)) ∧
 (∀ (f : C → C → C → C → C → C → C → C → C → C → C → C → C → C → C → C → C → C → C → C → C → C → C → C → R) xs, ap24 f xs = f (xs.getD 0 .nil) (xs.getD 1 .nil) (xs.getD 2 .nil) (xs.getD 3 .nil) (xs.getD 4 .nil) (xs.getD 5 .nil) (xs.getD 6 .nil) (xs.getD 7 .nil) (xs.getD 8 .nil) (xs.getD 9 .nil) (xs.getD 10 .nil) (xs.getD 11 .nil) (xs.getD 12 .nil) (xs.getD 13 .nil) (xs.getD 14 .nil) (xs.getD 15 .nil) (xs.getD 16 .nil) (xs.getD 17 .nil) (xs.getD 18 .nil) (xs.getD 19 .nil) (xs.getD 20 .nil) (xs.getD 21 .nil) (xs.getD 22 .nil) (xs.getD 23 .nil)) ∧
 (∀ (f : C → C → C → C → C → C → C → C → C → C → C → C → C → C → C → C → C → C → C → C → C → C → C → C → C → R) xs, ap25 f xs = f (xs.getD 0 .nil) (xs.getD 1 .nil) (xs.getD 2 .nil) (xs.getD 3 .nil) (xs.getD 4 .nil) (xs.getD 5 .nil) (xs.getD 6 .nil) (xs.getD 7 .nil) (xs.getD 8 .nil) (xs.getD 9 .nil) (xs.getD 10 .nil) (xs.getD 11 .nil) (xs.getD 12 .nil) (xs.getD 13 .nil) (xs.getD 14 .nil) (xs.getD 15 .nil) (xs.getD 16 .nil) (xs.getD 17 .nil) (xs.getD 18 .nil) (xs.getD 19 .nil) (xs.getD 20 .nil) (xs.getD 21 .nil) (xs.getD 22 .nil) (xs.getD 23 .nil) (xs.getD 24 .nil)) ∧
 (∀ (f : C → C → C → C → C → C → C → C → C → C → C → C → C → C → C → C → C → C → C → C → C → C → C → C → C → C → R) xs, ap26 f xs = f (xs.getD 0 .nil) (xs.getD 1 .nil) (xs.getD 2 .nil) (xs.getD 3 .nil) (xs.getD 4 .nil) (xs.getD 5 .nil) (xs.getD 6 .nil) (xs.getD 7 .nil) (xs.getD 8 .nil) (xs.getD 9 .nil) (xs.getD 10 .nil) (xs.getD 11 .nil) (xs.getD 12 .nil) (xs.getD 13 .nil) (xs.getD 14 .nil) (xs.getD 15 .nil) (xs.getD 16 .nil) (xs.getD 17 .nil) (xs.getD 18 .nil) (xs.getD 19 .nil) (xs.getD 20 .nil) (xs.getD 21 .nil) (xs.getD 22 .nil) (xs.getD 23 .nil) (xs.getD 24 .nil) (xs.getD 25 .nil)) ∧
 (∀ (f : C → C → C → C → C → C → C → C → C → C → C → C → C → C → C → C → C → C → C → C → C → C → C → C → C → C → C → R) xs, ap27 f xs = f (xs.getD 0 .nil) (xs.getD 1 .nil) (xs.getD 2 .nil) (xs.getD 3 .nil) (xs.getD 4 .nil) (xs.getD 5 .nil) (xs.getD 6 .nil) (xs.getD 7 .nil) (xs.getD 8 .nil) (xs.getD 9 .nil) (xs.getD 10 .nil) (xs.getD 11 .nil) (xs.getD 12 .nil) (xs.getD 13 .nil) (xs.getD 14 .nil) (xs.getD 15 .nil) (xs.getD 16 .nil) (xs.getD 17 .nil) (xs.getD 18 .nil) (xs.getD 19 .nil) (xs.getD 20 .nil) (xs.getD 21 .nil) (xs.getD 22 .nil) (xs.getD 23 .nil) (xs.getD 24 .nil) (xs.getD 25 .nil) (xs.getD 26 .nil)) ∧
 (∀ (f : C → C → C → C → C → C → C → C → C → C → C → C → C → C → C → C → C → C → C → C → C → C → C → C → C → C → C → C → R) xs, ap28 f xs = f (xs.getD 0 .nil) (xs.getD 1 .nil) (xs.getD 2 .nil) (xs.getD 3 .nil) (xs.getD 4 .nil) (xs.getD 5 .nil) (xs.getD 6 .nil) (xs.getD 7 .nil) (xs.getD 8 .nil) (xs.getD 9 .nil) (xs.getD 10 .nil) (xs.getD 11 .nil) (xs.getD 12 .nil) (xs.getD 13 .nil) (xs.getD 14 .nil) (xs.getD 15 .nil) (xs.getD 16 .nil) (xs.getD 17 .nil) (xs.getD 18 .nil) (xs.getD 19 .nil) (xs.getD 20 .nil) (xs.getD 21 .nil) (xs.getD 22 .nil) (xs.getD 23 .nil) (xs.getD 24 .nil) (xs.getD 25 .nil) (xs.getD 26 .nil) (xs.getD 27 .nil)) ∧
 (∀ (f : C → C → C → C → C → C → C → C → C → C → C → C → C → C → C → C → C → C → C → C → C → C → C → C → C → C → C → C → C → R) xs, ap29 f xs = f (xs.getD 0 .nil) (xs.getD 1 .nil) (xs.getD 2 .nil) (xs.getD 3 .nil) (xs.getD 4 .nil) (xs.getD 5 .nil) (xs.getD 6 .nil) (xs.getD 7 .nil) (xs.getD 8 .nil) (xs.getD 9 .nil) (xs.getD 10 .nil) (xs.getD 11 .nil) (xs.getD 12 .nil) (xs.getD 13 .nil) (xs.getD 14 .nil) (xs.getD 15 .nil) (xs.getD 16 .nil) (xs.getD 17 .nil) (xs.getD 18 .nil) (xs.getD 19 .nil) (xs.getD 20 .nil) (xs.getD 21 .nil) (xs.getD 22 .nil) (xs.getD 23 .nil) (xs.getD 24 .nil) (xs.getD 25 .nil) (xs.getD 26 .nil) (xs.getD 27 .nil) (xs.getD 28 .nil)) ∧
 (∀ (f : C → C → C → C → C → C → C → C → C → C → C → C → C → C → C → C → C → C → C → C → C → C → C → C → C → C → C → C → C → C → R) xs, ap30 f xs = f (xs.getD 0 .nil) (xs.getD 1 .nil) (xs.getD 2 .nil) (xs.getD 3 .nil) (xs.getD 4 .nil) (xs.getD 5 .nil) (xs.getD 6 .nil) (xs.getD 7 .nil) (xs.getD 8 .nil) (xs.getD 9 .nil) (xs.getD 10 .nil) (xs.getD 11 .nil) (xs.getD 12 .nil) (xs.getD 13 .nil) (xs.getD 14 .nil) (xs.getD 15 .nil) (xs.getD 16 .nil) (xs.getD 17 .nil) (xs.getD 18 .nil) (xs.getD 19 .nil) (xs.getD 20 .nil) (xs.getD 21 .nil) (xs.getD 22 .nil) (xs.getD 23 .nil) (xs.getD 24 .nil) (xs.getD 25 .nil) (xs.getD 26 .nil) (xs.getD 27 .nil) (xs.getD 28 .nil) (xs.getD 29 .nil)) ∧
 (∀ (f : C → C → C → C → C → C → C → C → C → C → C → C → C → C → C → C → C → C → C → C → C → C → C → C → C → C → C → C → C → C → C → R) xs, ap31 f xs = f (xs.getD 0 .nil) (xs.getD 1 .nil) (xs.getD 2 .nil) (xs.getD 3 .nil) (xs.getD 4 .nil) (xs.getD 5 .nil) (xs.getD 6 .nil) (xs.getD 7 .nil) (xs.getD 8 .nil) (xs.getD 9 .nil) (xs.getD 10 .nil) (xs.getD 11 .nil) (xs.getD 12 .nil) (xs.getD 13 .nil) (xs.getD 14 .nil) (xs.getD 15 .nil) (xs.getD 16 .nil) (xs.getD 17 .nil) (xs.getD 18 .nil) (xs.getD 19 .nil) (xs.getD 20 .nil) (xs.getD 21 .nil) (xs.getD 22 .nil) (xs.getD 23 .nil) (xs.getD 24 .nil) (xs.getD 25 .nil) (xs.getD 26 .nil) (xs.getD 27 .nil) (xs.getD 28 .nil) (xs.getD 29 .nil) (xs.getD 30 .nil)) ∧
 (∀ (f : C → C → C → C → C → C → C → C → C → C → C → C → C → C → C → C → C → C → C → C → C → C → C → C → C → C → C → C → C → C → C → C → R) xs, ap32 f xs = f (xs.getD 0 .nil) (xs.getD 1 .nil) (xs.getD 2 .nil) (xs.getD 3 .nil) (xs.getD 4 .nil) (xs.getD 5 .nil) (xs.getD 6 .nil) (xs.getD 7 .nil) (xs.getD 8 .nil) (xs.getD 9 .nil) (xs.getD 10 .nil) (xs.getD 11 .nil) (xs.getD 12 .nil) (xs.getD 13 .nil) (xs.getD 14 .nil) (xs.getD 15 .nil) (xs.getD 16 .nil) (xs.getD 17 .nil) (xs.getD 18 .nil) (xs.getD 19 .nil) (xs.getD 20 .nil) (xs.getD 21 .nil) (xs.getD 22 .nil) (xs.getD 23 .nil) (xs.getD 24 .nil) (xs.getD 25 .nil) (xs.getD 26 .nil) (xs.getD 27 .nil) (xs.getD 28 .nil) (xs.getD 29 .nil) (xs.getD 30 .nil) (xs.getD 31 .nil)) ∧
 (∀ (f : C → C → C → C → C → C → C → C → C → C → C → C → C → C → C → C → C → C → C → C → C → C → C → C → C → C → C → C → C → C → C → C → C → R) xs, ap33 f xs = f (xs.getD 0 .nil) (xs.getD 1 .nil) (xs.getD 2 .nil) (xs.getD 3 .nil) (xs.getD 4 .nil) (xs.getD 5 .nil) (xs.getD 6 .nil) (xs.getD 7 .nil) (xs.getD 8 .nil) (xs.getD 9 .nil) (xs.getD 10 .nil) (xs.getD 11 .nil) (xs.getD 12 .nil) (xs.getD 13 .nil) (xs.getD 14 .nil) (xs.getD 15 .nil) (xs.getD 16 .nil) (xs.getD 17 .nil) (xs.getD 18 .nil) (xs.getD 19 .nil) (xs.getD 20 .nil) (xs.getD 21 .nil) (xs.getD 22 .nil) (xs.getD 23 .nil) (xs.getD 24 .nil) (xs.getD 25 .nil) (xs.getD 26 .nil) (xs.getD 27 .nil) (xs.getD 28 .nil) (xs.getD 29 .nil) (xs.getD 30 .nil) (xs.getD 31 .nil) (xs.getD 32 .nil)) ∧
 (∀ (f : C → C → C → C → C → C → C → C → C → C → C → C → C → C → C → C → C → C → C → C → C → C → C → C → C → C → C → C → C → C → C → C → C → C → R) xs, ap34 f xs = f (xs.getD 0 .nil) (xs.getD 1 .nil) (xs.getD 2 .nil) (xs.getD 3 .nil) (xs.getD 4 .nil) (xs.getD 5 .nil) (xs.getD 6 .nil) (xs.getD 7 .nil) (xs.getD 8 .nil) (xs.getD 9 .nil) (xs.getD 10 .nil) (xs.getD 11 .nil) (xs.getD 12 .nil) (xs.getD 13 .nil) (xs.getD 14 .nil) (xs.getD 15 .nil) (xs.getD 16 .nil) (xs.getD 17 .nil) (xs.getD 18 .nil) (xs.getD 19 .nil) (xs.getD 20 .nil) (xs.getD 21 .nil) (xs.getD 22 .nil) (xs.getD 23 .nil) (xs.getD 24 .nil) (xs.getD 25 .nil) (xs.getD 26 .nil) (xs.getD 27 .nil) (xs.getD 28 .nil) (xs.getD 29 .nil) (xs.getD 30 .nil) (xs.getD 31 .nil) (xs.getD 32 .nil) (xs.getD 33 .nil)) ∧
 (∀ (f : C → C → C → C → C → C → C → C → C → C → C → C → C → C → C → C → C → C → C → C → C → C → C → C → C → C → C → C → C → C → C → C → C → C → C → R) xs, ap35 f xs = f (xs.getD 0 .nil) (xs.getD 1 .nil) (xs.getD 2 .nil) (xs.getD 3 .nil) (xs.getD 4 .nil) (xs.getD 5 .nil) (xs.getD 6 .nil) (xs.getD 7 .nil) (xs.getD 8 .nil) (xs.getD 9 .nil) (xs.getD 10 .nil) (xs.getD 11 .nil) (xs.getD 12 .nil) (xs.getD 13 .nil) (xs.getD 14 .nil) (xs.getD 15 .nil) (xs.getD 16 .nil) (xs.getD 17 .nil) (xs.getD 18 .nil) (xs.getD 19 .nil) (xs.getD 20 .nil) (xs.getD 21 .nil) (xs.getD 22 .nil) (xs.getD 23 .nil) (xs.getD 24 .nil) (xs.getD 25 .nil) (xs.getD 26 .nil) (xs.getD 27 .nil) (xs.getD 28 .nil) (xs.getD 29 .nil) (xs.getD 30 .nil) (xs.getD 31 .nil) (xs.getD 32 .nil) (xs.getD 33 .nil) (xs.getD 34 .nil)) ∧
 (∀ (f : C → C → C → C → C → C → C → C → C → C → C → C → C → C → C → C → C → C → C → C → C → C → C → C → C → C → C → C → C → C → C → C → C → C → C → C → R) xs, ap36 f xs = f (xs.getD 0 .nil) (xs.getD 1 .nil) (xs.getD 2 .nil) (xs.getD 3 .nil) (xs.getD 4 .nil) (xs.getD 5 .nil) (xs.getD 6 .nil) (xs.getD 7 .nil) (xs.getD 8 .nil) (xs.getD 9 .nil) (xs.getD 10 .nil) (xs.getD 11 .nil) (xs.getD 12 .nil) (xs.getD 13 .nil) (xs.getD 14 .nil) (xs.getD 15 .nil) (xs.getD 16 .nil) (xs.getD 17 .nil) (xs.getD 18 .nil) (xs.getD 19 .nil) (xs.getD 20 .nil) (xs.getD 21 .nil) (xs.getD 22 .nil) (xs.getD 23 .nil) (xs.getD 24 .nil) (xs.getD 25 .nil) (xs.getD 26 .nil) (xs.getD 27 .nil) (xs.getD 28 .nil) (xs.getD 29 .nil) (xs.getD 30 .nil) (xs.getD 31 .nil) (xs.getD 32 .nil) (xs.getD 33 .nil) (xs.getD 34 .nil) (xs.getD 35 .nil)) ∧
 (∀ (f : C → C → C → C → C → C → C → C → C → C → C → C → C → C → C → C → C → C → C → C → C → C → C → C → C → C → C → C → C → C → C → C → C → C → C → C → C → R) xs, ap37 f xs = f (xs.getD 0 .nil) (xs.getD 1 .nil) (xs.getD 2 .nil) (xs.getD 3 .nil) (xs.getD 4 .nil) (xs.getD 5 .nil) (xs.getD 6 .nil) (xs.getD 7 .nil) (xs.getD 8 .nil) (xs.getD 9 .nil) (xs.getD 10 .nil) (xs.getD 11 .nil) (xs.getD 12 .nil) (xs.getD 13 .nil) (xs.getD 14 .nil) (xs.getD 15 .nil) (xs.getD 16 .nil) (xs.getD 17 .nil) (xs.getD 18 .nil) (xs.getD 19 .nil) (xs.getD 20 .nil) (xs.getD 21 .nil) (xs.getD 22 .nil) (xs.getD 23 .nil) (xs.getD 24 .nil) (xs.getD 25 .nil) (xs.getD 26 .nil) (xs.getD 27 .nil) (xs.getD 28 .nil) (xs.getD 29 .nil) (xs.getD 30 .nil) (xs.getD 31 .nil) (xs.getD 32 .nil) (xs.getD 33 .nil) (xs.getD 34 .nil) (xs.getD 35 .nil) (xs.getD 36 .nil)) ∧
 (∀ (f : C → C → C → C → C → C → C → C → C → C → C → C → C → C → C → C → C → C → C → C → C → C → C → C → C → C → C → C → C → C → C → C → C → C → C → C → C → C → R) xs, ap38 f xs = f (xs.getD 0 .nil) (xs.getD 1 .nil) (xs.getD 2 .nil) (xs.getD 3 .nil) (xs.getD 4 .nil) (xs.getD 5 .nil) (xs.getD 6 .nil) (xs.getD 7 .nil) (xs.getD 8 .nil) (xs.getD 9 .nil) (xs.getD 10 .nil) (xs.getD 11 .nil) (xs.getD 12 .nil) (xs.getD 13 .nil) (xs.getD 14 .nil) (xs.getD 15 .nil) (xs.getD 16 .nil) (xs.getD 17 .nil) (xs.getD 18 .nil) (xs.getD 19 .nil) (xs.getD 20 .nil) (xs.getD 21 .nil) (xs.getD 22 .nil) (xs.getD 23 .nil) (xs.getD 24 .nil) (xs.getD 25 .nil) (xs.getD 26 .nil) (xs.getD 27 .nil) (xs.getD 28 .nil) (xs.getD 29 .nil) (xs.getD 30 .nil) (xs.getD 31 .nil) (xs.getD 32 .nil) (xs.getD 33 .nil) (xs.getD 34 .nil) (xs.getD 35 .nil) (xs.getD 36 .nil) (xs.getD 37 .nil)) ∧
 (∀ (f : C → C → C → C → C → C → C → C → C → C → C → C → C → C → C → C → C → C → C → C → C → C → C → C → C → C → C → C → C → C → C → C → C → C → C → C → C → C → C → R) xs, ap39 f xs = f (xs.getD 0 .nil) (xs.getD 1 .nil) (xs.getD 2 .nil) (xs.getD 3 .nil) (xs.getD 4 .nil) (xs.getD 5 .nil) (xs.getD 6 .nil) (xs.getD 7 .nil) (xs.getD 8 .nil) (xs.getD 9 .nil) (xs.getD 10 .nil) (xs.getD 11 .nil) (xs.getD 12 .nil) (xs.getD 13 .nil) (xs.getD 14 .nil) (xs.getD 15 .nil) (xs.getD 16 .nil) (xs.getD 17 .nil) (xs.getD 18 .nil) (xs.getD 19 .nil) (xs.getD 20 .nil) (xs.getD 21 .nil) (xs.getD 22 .nil) (xs.getD 23 .nil) (xs.getD 24 .nil) (xs.getD 25 .nil) (xs.getD 26 .nil) (xs.getD 27 .nil) (xs.getD 28 .nil) (xs.getD 29 .nil) (xs.getD 30 .nil) (xs.getD 31 .nil) (xs.getD 32 .nil) (xs.getD 33 .nil) (xs.getD 34 .nil) (xs.getD 35 .nil) (xs.getD 36 .nil) (xs.getD 37 .nil) (xs.getD 38 .nil)) ∧
 (∀ (f : C → C → C → C → C → C → C → C → C → C → C → C → C → C → C → C → C → C → C → C → C → C → C → C → C → C → C → C → C → C → C → C → C → C → C → C → C → C → C → C → R) xs, ap40 f xs = f (xs.getD 0 .nil) (xs.getD 1 .nil) (xs.getD 2 .nil) (xs.getD 3 .nil) (xs.getD 4 .nil) (xs.getD 5 .nil) (xs.getD 6 .nil) (xs.getD 7 .nil) (xs.getD 8 .nil) (xs.getD 9 .nil) (xs.getD 10 .nil) (xs.getD 11 .nil) (xs.getD 12 .nil) (xs.getD 13 .nil) (xs.getD 14 .nil) (xs.getD 15 .nil) (xs.getD 16 .nil) (xs.getD 17 .nil) (xs.getD 18 .nil) (xs.getD 19 .nil) (xs.getD 20 .nil) (xs.getD 21 .nil) (xs.getD 22 .nil) (xs.getD 23 .nil) (xs.getD 24 .nil) (xs.getD 25 .nil) (xs.getD 26 .nil) (xs.getD 27 .nil) (xs.getD 28 .nil) (xs.getD 29 .nil) (xs.getD 30 .nil) (xs.getD 31 .nil) (xs.getD 32 .nil) (xs.getD 33 .nil) (xs.getD 34 .nil) (xs.getD 35 .nil) (xs.getD 36 .nil) (xs.getD 37 .nil) (xs.getD 38 .nil) (xs.getD 39 .nil)) :=
 ⟨fun _ _ => rfl, fun _ _ => rfl, fun _ _ => rfl, fun _ _ => rfl, fun _ _ => rfl, fun _ _ => rfl, fun _ _ => rfl, fun _ _ => rfl, fun _ _ => rfl, fun _ _ => rfl, fun _ _ => rfl, fun _ _ => rfl, fun _ _ => rfl, fun _ _ => rfl, fun _ _ => rfl, fun _ _ => rfl, fun _ _ => rfl, fun _ _ => rfl, fun _ _ => rfl, fun _ _ => rfl, fun _ _ => rfl, fun _ _ => rfl, fun _ _ => rfl, fun _ _ => rfl, fun _ _ => rfl, fun _ _ => rfl, fun _ _ => rfl, fun _ _ => rfl, fun _ _ => rfl, fun _ _ => rfl, fun _ _ => rfl, fun _ _ => rfl, fun _ _ => rfl, fun _ _ => rfl, fun _ _ => rfl, fun _ _ => rfl, fun _ _ => rfl, fun _ _ => rfl, fun _ _ => rfl, fun _ _ => rfl⟩
attribute [simp] apL
theorem BB : (∀ {α : Type} {a : α} {us vs : List α}, a :: us ++ vs = a :: (us ++ vs)) ∧
 (∀ {α : Type} (us : List α), [] ++ us = us) ∧
 (∀ {α : Type} {x : α} {xs : List α} {d : α}, (x :: xs).getD 0 d = x) ∧
 (∀ {α : Type} {x : α} {xs : List α} {n : Nat} {d : α}, (x :: xs).getD (n + 1) d = xs.getD n d) ∧
 (∀ (n : Int), (C.i n).I = n) ∧
 (∀ (x : Bool), (C.b x).B = x) ∧
 (∀ (x : ByteArray), (C.s x).S = x) ∧
 (∀ (x : List (List C)), (C.l x).L = x) ∧
 (∀ (ys : List C) (K : List C → R), bindF (some ys) K = K ys) ∧
 (∀ (xs : List C) (K : List C → R), bindNrm (some (.nrm xs)) K = K xs) ∧
 (∀ (xs : List C) (K : List C → R), bindNrm (some (.ret xs)) K = some (.ret xs)) ∧
 (∀ (xs : List C) (K : List C → R), bindNrm (some (.again xs)) K = some (.again xs)) ∧
 (∀ (i : Nat) (xs : List C) (K : List C → R), bindNrm (some (.brk i xs)) K = some (.brk i xs)) ∧
 (∀ (i : Nat) (xs : List C) (K : List C → R), bindBlk i (some (.brk i xs)) K = K xs) ∧
 (∀ (i : Nat) (xs : List C) (K : List C → R), bindBlk i (some (.ret xs)) K = some (.ret xs)) ∧
 (∀ (i : Nat) (xs : List C) (K : List C → R), bindBlk i (some (.again xs)) K = some (.again xs)) ∧
 (∀ (i : Nat) (xs : List C) (K : List C → R), bindBlk i (some (.nrm xs)) K = some (.nrm xs)) ∧
 (∀ {α : Type} (a b : α), (bif true then a else b) = a) ∧
 (∀ {α : Type} (a b : α), (bif false then a else b) = b) ∧
 (∀ (h : Decidable True), decide True = true) ∧
 (∀ (h : Decidable False), decide False = false) ∧
 (∀ (ys : List C), finR (some (.ret ys)) = some ys) ∧
 (∀ {α β : Type} {us : List α} (f : α → β), (List.map f us).length = us.length) ∧
 (∀ (n : Nat), 0 ≤ (n : Int)) ∧
 (∀ (n : Nat), ((n : Int)).toNat = n) ∧
 ((!true) = false) ∧
 ((!false) = true) ∧
 (∀ {α : Type} {a : α}, [a].length = 1) ∧
 (∀ {α : Type}, ([] : List α).length = 0) ∧
 (∀ (n : Nat), 0 + n = n) ∧
 (∀ o (K : C → R), call1 o K = bindF o fun ys => K (ys.getD 0 .nil)) ∧
 (∀ o (K : C → C → R), call2 o K = bindF o fun ys => K (ys.getD 0 .nil) (ys.getD 1 .nil)) ∧
 (∀ o (K : C → C → C → R), call3 o K = bindF o fun ys => K (ys.getD 0 .nil) (ys.getD 1 .nil) (ys.getD 2 .nil)) ∧
 (∀ o (K : C → C → C → C → R), call4 o K = bindF o fun ys => K (ys.getD 0 .nil) (ys.getD 1 .nil) (ys.getD 2 .nil) (ys.getD 3 .nil)) ∧
 (∀ o (K : C → C → C → C → C → R), call5 o K = bindF o fun ys => K (ys.getD 0 .nil) (ys.getD 1 .nil) (ys.getD 2 .nil) (ys.getD 3 .nil) (ys.getD 4 .nil)) ∧
 (∀ o (K : C → C → C → C → C → C → R), call6 o K = bindF o fun ys => K (ys.getD 0 .nil) (ys.getD 1 .nil) (ys.getD 2 .nil) (ys.getD 3 .nil) (ys.getD 4 .nil) (ys.getD 5 .nil)) ∧
 (∀ o (K : C → C → C → C → C → C → C → R), call7 o K = bindF o fun ys => K (ys.getD 0 .nil) (ys.getD 1 .nil) (ys.getD 2 .nil) (ys.getD 3 .nil) (ys.getD 4 .nil) (ys.getD 5 .nil) (ys.getD 6 .nil)) ∧
 (∀ o (K : C → C → C → C → C → C → C → C → R), call8 o K = bindF o fun ys => K (ys.getD 0 .nil) (ys.getD 1 .nil) (ys.getD 2 .nil) (ys.getD 3 .nil) (ys.getD 4 .nil) (ys.getD 5 .nil) (ys.getD 6 .nil) (ys.getD 7 .nil)) ∧
 (∀ o (K : C → C → C → C → C → C → C → C → C → R), call9 o K = bindF o fun ys => K (ys.getD 0 .nil) (ys.getD 1 .nil) (ys.getD 2 .nil) (ys.getD 3 .nil) (ys.getD 4 .nil) (ys.getD 5 .nil) (ys.getD 6 .nil) (ys.getD 7 .nil) (ys.getD 8 .nil)) ∧
 (∀ o (K : C → C → C → C → C → C → C → C → C → C → R), call10 o K = bindF o fun ys => K (ys.getD 0 .nil) (ys.getD 1 .nil) (ys.getD 2 .nil) (ys.getD 3 .nil) (ys.getD 4 .nil) (ys.getD 5 .nil) (ys.getD 6 .nil) (ys.getD 7 .nil) (ys.getD 8 .nil) (ys.getD 9 .nil)) ∧
 (∀ o (K : C → C → C → C → C → C → C → C → C → C → C → R), call11 o K = bindF o fun ys => K (ys.getD 0 .nil) (ys.getD 1 .nil) (ys.getD 2 .nil) (ys.getD 3 .nil) (ys.getD 4 .nil) (ys.getD 5 .nil) (ys.getD 6 .nil) (ys.getD 7 .nil) (ys.getD 8 .nil) (ys.getD 9 .nil) (ys.getD 10 .nil)) ∧
 (∀ o (K : C → C → C → C → C → C → C → C → C → C → C → C → R), call12 o K = bindF o fun ys => K (ys.getD 0 .nil) (ys.getD 1 .nil) (ys.getD 2 .nil) (ys.getD 3 .nil) (ys.getD 4 .nil) (ys.getD 5 .nil) (ys.getD 6 .nil) (ys.getD 7 .nil) (ys.getD 8 .nil) (ys.getD 9 .nil) (ys.getD 10 .nil) (ys.getD 11 .nil)) ∧
 (∀ o (K : C → C → C → C → C → C → C → C → C → C → C → C → C → R), call13 o K = bindF o fun ys => K (ys.getD 0 .nil) (ys.getD 1 .nil) (ys.getD 2 .nil) (ys.getD 3 .nil) (ys.getD 4 .nil) (ys.getD 5 .nil) (ys.getD 6 .nil) (ys.getD 7 .nil) (ys.getD 8 .nil) (ys.getD 9 .nil) (ys.getD 10 .nil) (ys.getD 11 .nil) (ys.getD 12 .nil)) ∧
 (∀ o (K : C → C → C → C → C → C → C → C → C → C → C → C → C → C → R), call14 o K = bindF o fun ys => K (ys.getD 0 .nil) (ys.getD 1 .nil) (ys.getD 2 .nil) (ys.getD 3 .nil) (ys.getD 4 .nil) (ys.getD 5 .nil) (ys.getD 6 .nil) (ys.getD 7 .nil) (ys.getD 8 .nil) (ys.getD 9 .nil) (ys.getD 10 .nil) (ys.getD 11 .nil) (ys.getD 12 .nil) (ys.getD 13 .nil)) ∧
 (∀ o (K : C → C → C → C → C → C → C → C → C → C → C → C → C → C → C → R), call15 o K = bindF o fun ys => K (ys.getD 0 .nil) (ys.getD 1 .nil) (ys.getD 2 .nil) (ys.getD 3 .nil) (ys.getD 4 .nil) (ys.getD 5 .nil) (ys.getD 6 .nil) (ys.getD 7 .nil) (ys.getD 8 .nil) (ys.getD 9 .nil) (ys.getD 10 .nil) (ys.getD 11 .nil) (ys.getD 12 .nil) (ys.getD 13 .nil) (ys.getD 14 .nil)) ∧
 (∀ o (K : C → C → C → C → C → C → C → C → C → C → C → C → C → C → C → C → R), call16 o K = bindF o fun ys => K (ys.getD 0 .nil) (ys.getD 1 .nil) (ys.getD 2 .nil) (ys.getD 3 .nil) (ys.getD 4 .nil) (ys.getD 5 .nil) (ys.getD 6 .nil) (ys.getD 7 .nil) (ys.getD 8 .nil) (ys.getD 9 .nil) (ys.getD 10 .nil) (ys.getD 11 .nil) (ys.getD 12 .nil) (ys.getD 13 .nil) (ys.getD 14 .nil) (ys.getD 15 .nil)) ∧
 (∀ o (K : C → C → C → C → C → C → C → C → C → C → C → C → C → C → C → C → C → R), call17 o K = bindF o fun ys => K (ys.getD 0 .nil) (ys.getD 1 .nil) (ys.getD 2 .nil) (ys.getD 3 .nil) (ys.getD 4 .nil) (ys.getD 5 .nil) (ys.getD 6 .nil) (ys.getD 7 .nil) (ys.getD 8 .nil) (ys.getD 9 .nil) (ys.getD 10 .nil) (ys.getD 11 .nil) (ys.getD 12 .nil) (ys.getD 13 .nil) (ys.getD 14 .nil) (ys.getD 15 .nil) (ys.getD 16 .nil)) ∧
 (∀ o (K : C → C → C → C → C → C → C → C → C → C → C → C → C → C → C → C → C → C → R), call18 o K = bindF o fun ys => K (ys.getD 0 .nil) (ys.getD 1 .nil) (ys.getD 2 .nil) (ys.getD 3 .nil) (ys.getD 4 .nil) (ys.getD 5 .nil) (ys.getD 6 .nil) (ys.getD 7 .nil) (ys.getD 8 .nil) (ys.getD 9 .nil) (ys.getD 10 .nil) (ys.getD 11 .nil) (ys.getD 12 .nil) (ys.getD 13 .nil) (ys.getD 14 .nil) (ys.getD 15 .nil) (ys.getD 16 .nil) (ys.getD 17 .nil)) ∧
 (∀ o (K : C → C → C → C → C → C → C → C → C → C → C → C → C → C → C → C → C → C → C → R), call19 o K = bindF o fun ys => K (ys.getD 0 .nil) (ys.getD 1 .nil) (ys.getD 2 .nil) (ys.getD 3 .nil) (ys.getD 4 .nil) (ys.getD 5 .nil) (ys.getD 6 .nil) (ys.getD 7 .nil) (ys.getD 8 .nil) (ys.getD 9 .nil) (ys.getD 10 .nil) (ys.getD 11 .nil) (ys.getD 12 .nil) (ys.getD 13 .nil) (ys.getD 14 .nil) (ys.getD 15 .nil) (ys.getD 16 .nil) (ys.getD 17 .nil) (ys.getD 18 .nil)) ∧
 (∀ o (K : C → C → C → C → C → C → C → C → C → C → C → C → C → C → C → C → C → C → C → C → R), call20 o K = bindF o fun ys => K (ys.getD 0 .nil) (ys.getD 1 .nil) (ys.getD 2 .nil) (ys.getD 3 .nil) (ys.getD 4 .nil) (ys.getD 5 .nil) (ys.getD 6 .nil) (ys.getD 7 .nil) (ys.getD 8 .nil) (ys.getD 9 .nil) (ys.getD 10 .nil) (ys.getD 11 .nil) (ys.getD 12 .nil) (ys.getD 13 .nil) (ys.getD 14 .nil) (ys.getD 15 .nil) (ys.getD 16 .nil) (ys.getD 17 .nil) (ys.getD 18 .nil) (ys.getD 19 .nil)) ∧
 (∀ o (K : C → C → C → C → C → C → C → C → C → C → C → C → C → C → C → C → C → C → C → C → C → R), call21 o K = bindF o fun ys => K (ys.getD 0 .nil) (ys.getD 1 .nil) (ys.getD 2 .nil) (ys.getD 3 .nil) (ys.getD 4 .nil) (ys.getD 5 .nil) (ys.getD 6 .nil) (ys.getD 7 .nil) (ys.getD 8 .nil) (ys.getD 9 .nil) (ys.getD 10 .nil) (ys.getD 11 .nil) (ys.getD 12 .nil) (ys.getD 13 .nil) (ys.getD 14 .nil) (ys.getD 15 .nil) (ys.getD 16 .nil) (ys.getD 17 .nil) (ys.getD 18 .nil) (ys.getD 19 .nil) (ys.getD 20 .nil)) ∧
 (∀ o (K : C → C → C → C → C → C → C → C → C → C → C → C → C → C → C → C → C → C → C → C → C → C → R), call22 o K = bindF o fun ys => K (ys.getD 0 .nil) (ys.getD 1 .nil) (ys.getD 2 .nil) (ys.getD 3 .nil) (ys.getD 4 .nil) (ys.getD 5 .nil) (ys.getD 6 .nil) (ys.getD 7 .nil) (ys.getD 8 .nil) (ys.getD 9 .nil) (ys.getD 10 .nil) (ys.getD 11 .nil) (ys.getD 12 .nil) (ys.getD 13 .nil) (ys.getD 14 .nil) (ys.getD 15 .nil) (ys.getD 16 .nil) (ys.getD 17 .nil) (ys.getD 18 .nil) (ys.getD 19 .nil) (ys.getD 20 .nil) (ys.getD 21 .nil)) ∧
 (∀ o (K : C → C → C → C → C → C → C → C → C → C → C → C → C → C → C → C → C → C → C → C → C → C → C → R), call23 o K = bindF o fun ys => K (ys.getD 0 .nil) (ys.getD 1 .nil) (ys.getD 2 .nil) (ys.getD 3 .nil) (ys.getD 4 .nil) (ys.getD 5 .nil) (ys.getD 6 .nil) (ys.getD 7 .nil) (ys.getD 8 .nil) (ys.getD 9 .nil) (ys.getD 10 .nil) (ys.getD 11 .nil) (ys.getD 12 .nil) (ys.getD 13 .nil) (ys.getD 14 .nil) (ys.getD 15 .nil) (ys.getD 16 .nil) (ys.getD 17 .nil) (ys.getD 18 .nil) (ys.getD 19 .nil) (ys.getD 20 .nil) (ys.getD 21 .nil) (ys.getD 22 .nil)) ∧
 (∀ o (K : C → C → C → C → C → C → C → C → C → C → C → C → C → C → C → C → C → C → C → C → C → C → C → C → R), call24 o K = bindF o fun ys => K (ys.getD 0 .nil) (ys.getD 1 .nil) (ys.getD 2 .nil) (ys.getD 3 .nil) (ys.getD 4 .nil) (ys.getD 5 .nil) (ys.getD 6 .nil) (ys.getD 7 .nil) (ys.getD 8 .nil) (ys.getD 9 .nil) (ys.getD 10 .nil) (ys.getD 11 .nil) (ys.getD 12 .nil) (ys.getD 13 .nil) (ys.getD 14 .nil) (ys.getD 15 .nil) (ys.getD 16 .nil) (ys.getD 17 .nil) (ys.getD 18 .nil) (ys.getD 19 .nil) (ys.getD 20 .nil) (ys.getD 21 .nil) (ys.getD 22 .nil) (ys.getD 23 .nil)) ∧
 (∀ (f : C → R) xs, ap1 f xs = f (xs.getD 0 .nil)) ∧
 (∀ (f : C → C → R) xs, ap2 f xs = f (xs.getD 0 .nil) (xs.getD 1 .nil)) ∧
 (∀ (f : C → C → C → R) xs, ap3 f xs = f (xs.getD 0 .nil) (xs.getD 1 .nil) (xs.getD 2 .nil)) ∧
 (∀ (f : C → C → C → C → R) xs, ap4 f xs = f (xs.getD 0 .nil) (xs.getD 1 .nil) (xs.getD 2 .nil) (xs.getD 3 .nil)) ∧
 (∀ (f : C → C → C → C → C → R) xs, ap5 f xs = f (xs.getD 0 .nil) (xs.getD 1 .nil) (xs.getD 2 .nil) (xs.getD 3 .nil) (xs.getD 4 .nil)) ∧
 (∀ (f : C → C → C → C → C → C → R) xs, ap6 f xs = f (xs.getD 0 .nil) (xs.getD 1 .nil) (xs.getD 2 .nil) (xs.getD 3 .nil) (xs.getD 4 .nil) (xs.getD 5 .nil)) ∧
 (∀ (f : C → C → C → C → C → C → C → R) xs, ap7 f xs = f (xs.getD 0 .nil) (xs.getD 1 .nil) (xs.getD 2 .nil) (xs.getD 3 .nil) (xs.getD 4 .nil) (xs.getD 5 .nil) (xs.getD 6 .nil)) ∧
 (∀ (f : C → C → C → C → C → C → C → C → R) xs, ap8 f xs = f (xs.getD 0 .nil) (xs.getD 1 .nil) (xs.getD 2 .nil) (xs.getD 3 .nil) (xs.getD 4 .nil) (xs.getD 5 .nil) (xs.getD 6 .nil) (xs.getD 7 .nil)) ∧
 (∀ (f : C → C → C → C → C → C → C → C → C → R) xs, ap9 f xs = f (xs.getD 0 .nil) (xs.getD 1 .nil) (xs.getD 2 .nil) (xs.getD 3 .nil) (xs.getD 4 .nil) (xs.getD 5 .nil) (xs.getD 6 .nil) (xs.getD 7 .nil) (xs.getD 8 .nil)) ∧
 (∀ (f : C → C → C → C → C → C → C → C → C → C → R) xs, ap10 f xs = f (xs.getD 0 .nil) (xs.getD 1 .nil) (xs.getD 2 .nil) (xs.getD 3 .nil) (xs.getD 4 .nil) (xs.getD 5 .nil) (xs.getD 6 .nil) (xs.getD 7 .nil) (xs.getD 8 .nil) (xs.getD 9 .nil)) ∧
 (∀ (f : C → C → C → C → C → C → C → C → C → C → C → R) xs, ap11 f xs = f (xs.getD 0 .nil) (xs.getD 1 .nil) (xs.getD 2 .nil) (xs.getD 3 .nil) (xs.getD 4 .nil) (xs.getD 5 .nil) (xs.getD 6 .nil) (xs.getD 7 .nil) (xs.getD 8 .nil) (xs.getD 9 .nil) (xs.getD 10 .nil)) ∧
 (∀ (f : C → C → C → C → C → C → C → C → C → C → C → C → R) xs, ap12 f xs = f (xs.getD 0 .nil) (xs.getD 1 .nil) (xs.getD 2 .nil) (xs.getD 3 .nil) (xs.getD 4 .nil) (xs.getD 5 .nil) (xs.getD 6 .nil) (xs.getD 7 .nil) (xs.getD 8 .nil) (xs.getD 9 .nil) (xs.getD 10 .nil) (xs.getD 11 .nil)) ∧
 (∀ (f : C → C → C → C → C → C → C → C → C → C → C → C → C → R) xs, ap13 f xs = f (xs.getD 0 .nil) (xs.getD 1 .nil) (xs.getD 2 .nil) (xs.getD 3 .nil) (xs.getD 4 .nil) (xs.getD 5 .nil) (xs.getD 6 .nil) (xs.getD 7 .nil) (xs.getD 8 .nil) (xs.getD 9 .nil) (xs.getD 10 .nil) (xs.getD 11 .nil) (xs.getD 12 .nil)) ∧
 (∀ (f : C → C → C → C → C → C → C → C → C → C → C → C → C → C → R) xs, ap14 f xs = f (xs.getD 0 .nil) (xs.getD 1 .nil) (xs.getD 2 .nil) (xs.getD 3 .nil) (xs.getD 4 .nil) (xs.getD 5 .nil) (xs.getD 6 .nil) (xs.getD 7 .nil) (xs.getD 8 .nil) (xs.getD 9 .nil) (xs.getD 10 .nil) (xs.getD 11 .nil) (xs.getD 12 .nil) (xs.getD 13 .nil)) ∧
 (∀ (f : C → C → C → C → C → C → C → C → C → C → C → C → C → C → C → R) xs, ap15 f xs = f (xs.getD 0 .nil) (xs.getD 1 .nil) (xs.getD 2 .nil) (xs.getD 3 .nil) (xs.getD 4 .nil) (xs.getD 5 .nil) (xs.getD 6 .nil) (xs.getD 7 .nil) (xs.getD 8 .nil) (xs.getD 9 .nil) (xs.getD 10 .nil) (xs.getD 11 .nil) (xs.getD 12 .nil) (xs.getD 13 .nil) (xs.getD 14 .nil)) ∧
 (∀ (f : C → C → C → C → C → C → C → C → C → C → C → C → C → C → C → C → R) xs, ap16 f xs = f (xs.getD 0 .nil) (xs.getD 1 .nil) (xs.getD 2 .nil) (xs.getD 3 .nil) (xs.getD 4 .nil) (xs.getD 5 .nil) (xs.getD 6 .nil) (xs.getD 7 .nil) (xs.getD 8 .nil) (xs.getD 9 .nil) (xs.getD 10 .nil) (xs.getD 11 .nil) (xs.getD 12 .nil) (xs.getD 13 .nil) (xs.getD 14 .nil) (xs.getD 15 .nil)) ∧
 (∀ (f : C → C → C → C → C → C → C → C → C → C → C → C → C → C → C → C → C → R) xs, ap17 f xs = f (xs.getD 0 .nil) (xs.getD 1 .nil) (xs.getD 2 .nil) (xs.getD 3 .nil) (xs.getD 4 .nil) (xs.getD 5 .nil) (xs.getD 6 .nil) (xs.getD 7 .nil) (xs.getD 8 .nil) (xs.getD 9 .nil) (xs.getD 10 .nil) (xs.getD 11 .nil) (xs.getD 12 .nil) (xs.getD 13 .nil) (xs.getD 14 .nil) (xs.getD 15 .nil) (xs.getD 16 .nil)) ∧
 (∀ (f : C → C → C → C → C → C → C → C → C → C → C → C → C → C → C → C → C → C → R) xs, ap18 f xs = f (xs.getD 0 .nil) (xs.getD 1 .nil) (xs.getD 2 .nil) (xs.getD 3 .nil) (xs.getD 4 .nil) (xs.getD 5 .nil) (xs.getD 6 .nil) (xs.getD 7 .nil) (xs.getD 8 .nil) (xs.getD 9 .nil) (xs.getD 10 .nil) (xs.getD 11 .nil) (xs.getD 12 .nil) (xs.getD 13 .nil) (xs.getD 14 .nil) (xs.getD 15 .nil) (xs.getD 16 .nil) (xs.getD 17 .nil)) ∧
 (∀ (f : C → C → C → C → C → C → C → C → C → C → C → C → C → C → C → C → C → C → C → R) xs, ap19 f xs = f (xs.getD 0 .nil) (xs.getD 1 .nil) (xs.getD 2 .nil) (xs.getD 3 .nil) (xs.getD 4 .nil) (xs.getD 5 .nil) (xs.getD 6 .nil) (xs.getD 7 .nil) (xs.getD 8 .nil) (xs.getD 9 .nil) (xs.getD 10 .nil) (xs.getD 11 .nil) (xs.getD 12 .nil) (xs.getD 13 .nil) (xs.getD 14 .nil) (xs.getD 15 .nil) (xs.getD 16 .nil) (xs.getD 17 .nil) (xs.getD 18 .nil)) ∧
 (∀ (f : C → C → C → C → C → C → C → C → C → C → C → C → C → C → C → C → C → C → C → C → R) xs, ap20 f xs = f (xs.getD 0 .nil) (xs.getD 1 .nil) (xs.getD 2 .nil) (xs.getD 3 .nil) (xs.getD 4 .nil) (xs.getD 5 .nil) (xs.getD 6 .nil) (xs.getD 7 .nil) (xs.getD 8 .nil) (xs.getD 9 .nil) (xs.getD 10 .nil) (xs.getD 11 .nil) (xs.getD 12 .nil) (xs.getD 13 .nil) (xs.getD 14 .nil) (xs.getD 15 .nil) (xs.getD 16 .nil) (xs.getD 17 .nil) (xs.getD 18 .nil) (xs.getD 19 .nil)) ∧
 (∀ (f : C → C → C → C → C → C → C → C → C → C → C → C → C → C → C → C → C → C → C → C → C → R) xs, ap21 f xs = f (xs.getD 0 .nil) (xs.getD 1 .nil) (xs.getD 2 .nil) (xs.getD 3 .nil) (xs.getD 4 .nil) (xs.getD 5 .nil) (xs.getD 6 .nil) (xs.getD 7 .nil) (xs.getD 8 .nil) (xs.getD 9 .nil) (xs.getD 10 .nil) (xs.getD 11 .nil) (xs.getD 12 .nil) (xs.getD 13 .nil) (xs.getD 14 .nil) (xs.getD 15 .nil) (xs.getD 16 .nil) (xs.getD 17 .nil) (xs.getD 18 .nil) (xs.getD 19 .nil) (xs.getD 20 .nil)) ∧
 (∀ (f : C → C → C → C → C → C → C → C → C → C → C → C → C → C → C → C → C → C → C → C → C → C → R) xs, ap22 f xs = f (xs.getD 0 .nil) (xs.getD 1 .nil) (xs.getD 2 .nil) (xs.getD 3 .nil) (xs.getD 4 .nil) (xs.getD 5 .nil) (xs.getD 6 .nil) (xs.getD 7 .nil) (xs.getD 8 .nil) (xs.getD 9 .nil) (xs.getD 10 .nil) (xs.getD 11 .nil) (xs.getD 12 .nil) (xs.getD 13 .nil) (xs.getD 14 .nil) (xs.getD 15 .nil) (xs.getD 16 .nil) (xs.getD 17 .nil) (xs.getD 18 .nil) (xs.getD 19 .nil) (xs.getD 20 .nil) (xs.getD 21 .nil)) ∧
 (∀ (f : C → C → C → C → C → C → C → C → C → C → C → C → C → C → C → C → C → C → C → C → C → C → C → R) xs, ap23 f xs = f (xs.getD 0 .nil) (xs.getD 1 .nil) (xs.getD 2 .nil) (xs.getD 3 .nil) (xs.getD 4 .nil) (xs.getD 5 .nil) (xs.getD 6 .nil) (xs.getD 7 .nil) (xs.getD 8 .nil) (xs.getD 9 .nil) (xs.getD 10 .nil) (xs.getD 11 .nil) (xs.getD 12 .nil) (xs.getD 13 .nil) (xs.getD 14 .nil) (xs.getD 15 .nil) (xs.getD 16 .nil) (xs.getD 17 .nil) (xs.getD 18 .nil) (xs.getD 19 .nil) (xs.getD 20 .nil) (xs.getD 21 .nil) (xs.getD 22 .nil)) ∧
 (∀ (f : C → C → C → C → C → C → C → C → C → C → C → C → C → C → C → C → C → C → C → C → C → C → C → C → R) xs, ap24 f xs = f (xs.getD 0 .nil) (xs.getD 1 .nil) (xs.getD 2 .nil) (xs.getD 3 .nil) (xs.getD 4 .nil) (xs.getD 5 .nil) (xs.getD 6 .nil) (xs.getD 7 .nil) (xs.getD 8 .nil) (xs.getD 9 .nil) (xs.getD 10 .nil) (xs.getD 11 .nil) (xs.getD 12 .nil) (xs.getD 13 .nil) (xs.getD 14 .nil) (xs.getD 15 .nil) (xs.getD 16 .nil) (xs.getD 17 .nil) (xs.getD 18 .nil) (xs.getD 19 .nil) (xs.getD 20 .nil) (xs.getD 21 .nil) (xs.getD 22 .nil) (xs.getD 23 .nil)) ∧
 (∀ (f : C → C → C → C → C → C → C → C → C → C → C → C → C → C → C → C → C → C → C → C → C → C → C → C → C → R) xs, ap25 f xs = f (xs.getD 0 .nil) (xs.getD 1 .nil) (xs.getD 2 .nil) (xs.getD 3 .nil) (xs.getD 4 .nil) (xs.getD 5 .nil) (xs.getD 6 .nil) (xs.getD 7 .nil) (xs.getD 8 .nil) (xs.getD 9 .nil) (xs.getD 10 .nil) (xs.getD 11 .nil) (xs.getD 12 .nil) (xs.getD 13 .nil) (xs.getD 14 .nil) (xs.getD 15 .nil) (xs.getD 16 .nil) (xs.getD 17 .nil) (xs.getD 18 .nil) (xs.getD 19 .nil) (xs.getD 20 .nil) (xs.getD 21 .nil) (xs.getD 22 .nil) (xs.getD 23 .nil) (xs.getD 24 .nil)) ∧
 (∀ (f : C → C → C → C → C → C → C → C → C → C → C → C → C → C → C → C → C → C → C → C → C → C → C → C → C → C → R) xs, ap26 f xs = f (xs.getD 0 .nil) (xs.getD 1 .nil) (xs.getD 2 .nil) (xs.getD 3 .nil) (xs.getD 4 .nil) (xs.getD 5 .nil) (xs.getD 6 .nil) (xs.getD 7 .nil) (xs.getD 8 .nil) (xs.getD 9 .nil) (xs.getD 10 .nil) (xs.getD 11 .nil) (xs.getD 12 .nil) (xs.getD 13 .nil) (xs.getD 14 .nil) (xs.getD 15 .nil) (xs.getD 16 .nil) (xs.getD 17 .nil) (xs.getD 18 .nil) (xs.getD 19 .nil) (xs.getD 20 .nil) (xs.getD 21 .nil) (xs.getD 22 .nil) (xs.getD 23 .nil) (xs.getD 24 .nil) (xs.getD 25 .nil)) ∧
 (∀ (f : C → C → C → C → C → C → C → C → C → C → C → C → C → C → C → C → C → C → C → C → C → C → C → C → C → C → C → R) xs, ap27 f xs = f (xs.getD 0 .nil) (xs.getD 1 .nil) (xs.getD 2 .nil) (xs.getD 3 .nil) (xs.getD 4 .nil) (xs.getD 5 .nil) (xs.getD 6 .nil) (xs.getD 7 .nil) (xs.getD 8 .nil) (xs.getD 9 .nil) (xs.getD 10 .nil) (xs.getD 11 .nil) (xs.getD 12 .nil) (xs.getD 13 .nil) (xs.getD 14 .nil) (xs.getD 15 .nil) (xs.getD 16 .nil) (xs.getD 17 .nil) (xs.getD 18 .nil) (xs.getD 19 .nil) (xs.getD 20 .nil) (xs.getD 21 .nil) (xs.getD 22 .nil) (xs.getD 23 .nil) (xs.getD 24 .nil) (xs.getD 25 .nil) (xs.getD 26 .nil)) ∧
 (∀ (f : C → C → C → C → C → C → C → C → C → C → C → C → C → C → C → C → C → C → C → C → C → C → C → C → C → C → C → C → R) xs, ap28 f xs = f (xs.getD 0 .nil) (xs.getD 1 .nil) (xs.getD 2 .nil) (xs.getD 3 .nil) (xs.getD 4 .nil) (xs.getD 5 .nil) (xs.getD 6 .nil) (xs.getD 7 .nil) (xs.getD 8 .nil) (xs.getD 9 .nil) (xs.getD 10 .nil) (xs.getD 11 .nil) (xs.getD 12 .nil) (xs.getD 13 .nil) (xs.getD 14 .nil) (xs.getD 15 .nil) (xs.getD 16 .nil) (xs.getD 17 .nil) (xs.getD 18 .nil) (xs.getD 19 .nil) (xs.getD 20 .nil) (xs.getD 21 .nil) (xs.getD 22 .nil) (xs.getD 23 .nil) (xs.getD 24 .nil) (xs.getD 25 .nil) (xs.getD 26 .nil) (xs.getD 27 .nil)) ∧
 (∀ (f : C → C → C → C → C → C → C → C → C → C → C → C → C → C → C → C → C → C → C → C → C → C → C → C → C → C → C → C → C → R) xs, ap29 f xs = f (xs.getD 0 .nil) (xs.getD 1 .nil) (xs.getD 2 .nil) (xs.getD 3 .nil) (xs.getD 4 .nil) (xs.getD 5 .nil) (xs.getD 6 .nil) (xs.getD 7 .nil) (xs.getD 8 .nil) (xs.getD 9 .nil) (xs.getD 10 .nil) (xs.getD 11 .nil) (xs.getD 12 .nil) (xs.getD 13 .nil) (xs.getD 14 .nil) (xs.getD 15 .nil) (xs.getD 16 .nil) (xs.getD 17 .nil) (xs.getD 18 .nil) (xs.getD 19 .nil) (xs.getD 20 .nil) (xs.getD 21 .nil) (xs.getD 22 .nil) (xs.getD 23 .nil) (xs.getD 24 .nil) (xs.getD 25 .nil) (xs.getD 26 .nil) (xs.getD 27 .nil) (xs.getD 28 .nil)) ∧
 (∀ (f : C → C → C → C → C → C → C → C → C → C → C → C → C → C → C → C → C → C → C → C → C → C → C → C → C → C → C → C → C → C → R) xs, ap30 f xs = f (xs.getD 0 .nil) (xs.getD 1 .nil) (xs.getD 2 .nil) (xs.getD 3 .nil) (xs.getD 4 .nil) (xs.getD 5 .nil) (xs.getD 6 .nil) (xs.getD 7 .nil) (xs.getD 8 .nil) (xs.getD 9 .nil) (xs.getD 10 .nil) (xs.getD 11 .nil) (xs.getD 12 .nil) (xs.getD 13 .nil) (xs.getD 14 .nil) (xs.getD 15 .nil) (xs.getD 16 .nil) (xs.getD 17 .nil) (xs.getD 18 .nil) (xs.getD 19 .nil) (xs.getD 20 .nil) (xs.getD 21 .nil) (xs.getD 22 .nil) (xs.getD 23 .nil) (xs.getD 24 .nil) (xs.getD 25 .nil) (xs.getD 26 .nil) (xs.getD 27 .nil) (xs.getD 28 .nil) (xs.getD 29 .nil)) ∧
 (∀ (f : C → C → C → C → C → C → C → C → C → C → C → C → C → C → C → C → C → C → C → C → C → C → C → C → C → C → C → C → C → C → C → R) xs, ap31 f xs = f (xs.getD 0 .nil) (xs.getD 1 .nil) (xs.getD 2 .nil) (xs.getD 3 .nil) (xs.getD 4 .nil) (xs.getD 5 .nil) (xs.getD 6 .nil) (xs.getD 7 .nil) (xs.getD 8 .nil) (xs.getD 9 .nil) (xs.getD 10 .nil) (xs.getD 11 .nil) (xs.getD 12 .nil) (xs.getD 13 .nil) (xs.getD 14 .nil) (xs.getD 15 .nil) (xs.getD 16 .nil) (xs.getD 17 .nil) (xs.getD 18 .nil) (xs.getD 19 .nil) (xs.getD 20 .nil) (xs.getD 21 .nil) (xs.getD 22 .nil) (xs.getD 23 .nil) (xs.getD 24 .nil) (xs.getD 25 .nil) (xs.getD 26 .nil) (xs.getD 27 .nil) (xs.getD 28 .nil) (xs.getD 29 .nil) (xs.getD 30 .nil)) ∧
 (∀ (f : C → C → C → C → C → C → C → C → C → C → C → C → C → C → C → C → C → C → C → C → C → C → C → C → C → C → C → C → C → C → C → C → R) xs, ap32 f xs = f (xs.getD 0 .nil) (xs.getD 1 .nil) (xs.getD 2 .nil) (xs.getD 3 .nil) (xs.getD 4 .nil) (xs.getD 5 .nil) (xs.getD 6 .nil) (xs.getD 7 .nil) (xs.getD 8 .nil) (xs.getD 9 .nil) (xs.getD 10 .nil) (xs.getD 11 .nil) (xs.getD 12 .nil) (xs.getD 13 .nil) (xs.getD 14 .nil) (xs.getD 15 .nil) (xs.getD 16 .nil) (xs.getD 17 .nil) (xs.getD 18 .nil) (xs.getD 19 .nil) (xs.getD 20 .nil) (xs.getD 21 .nil) (xs.getD 22 .nil) (xs.getD 23 .nil) (xs.getD 24 .nil) (xs.getD 25 .nil) (xs.getD 26 .nil) (xs.getD 27 .nil) (xs.getD 28 .nil) (xs.getD 29 .nil) (xs.getD 30 .nil) (xs.getD 31 .nil)) ∧
 (∀ (f : C → C → C → C → C → C → C → C → C → C → C → C → C → C → C → C → C → C → C → C → C → C → C → C → C → C → C → C → C → C → C → C → C → R) xs, ap33 f xs = f (xs.getD 0 .nil) (xs.getD 1 .nil) (xs.getD 2 .nil) (xs.getD 3 .nil) (xs.getD 4 .nil) (xs.getD 5 .nil) (xs.getD 6 .nil) (xs.getD 7 .nil) (xs.getD 8 .nil) (xs.getD 9 .nil) (xs.getD 10 .nil) (xs.getD 11 .nil) (xs.getD 12 .nil) (xs.getD 13 .nil) (xs.getD 14 .nil) (xs.getD 15 .nil) (xs.getD 16 .nil) (xs.getD 17 .nil) (xs.getD 18 .nil) (xs.getD 19 .nil) (xs.getD 20 .nil) (xs.getD 21 .nil) (xs.getD 22 .nil) (xs.getD 23 .nil) (xs.getD 24 .nil) (xs.getD 25 .nil) (xs.getD 26 .nil) (xs.getD 27 .nil) (xs.getD 28 .nil) (xs.getD 29 .nil) (xs.getD 30 .nil) (xs.getD 31 .nil) (xs.getD 32 .nil)) ∧
 (∀ (f : C → C → C → C → C → C → C → C → C → C → C → C → C → C → C → C → C → C → C → C → C → C → C → C → C → C → C → C → C → C → C → C → C → C → R) xs, ap34 f xs = f (xs.getD 0 .nil) (xs.getD 1 .nil) (xs.getD 2 .nil) (xs.getD 3 .nil) (xs.getD 4 .nil) (xs.getD 5 .nil) (xs.getD 6 .nil) (xs.getD 7 .nil) (xs.getD 8 .nil) (xs.getD 9 .nil) (xs.getD 10 .nil) (xs.getD 11 .nil) (xs.getD 12 .nil) (xs.getD 13 .nil) (xs.getD 14 .nil) (xs.getD 15 .nil) (xs.getD 16 .nil) (xs.getD 17 .nil) (xs.getD 18 .nil) (xs.getD 19 .nil) (xs.getD 20 .nil) (xs.getD 21 .nil) (xs.getD 22 .nil) (xs.getD 23 .nil) (xs.getD 24 .nil) (xs.getD 25 .nil) (xs.getD 26 .nil) (xs.getD 27 .nil) (xs.getD 28 .nil) (xs.getD 29 .nil) (xs.getD 30 .nil) (xs.getD 31 .nil) (xs.getD 32 .nil) (xs.getD 33 .nil)) ∧
 (∀ (f : C → C → C → C → C → C → C → C → C → C → C → C → C → C → C → C → C → C → C → C → C → C → C → C → C → C → C → C → C → C → C → C → C → C → C → R) xs, ap35 f xs = f (xs.getD 0 .nil) (xs.getD 1 .nil) (xs.getD 2 .nil) (xs.getD 3 .nil) (xs.getD 4 .nil) (xs.getD 5 .nil) (xs.getD 6 .nil) (xs.getD 7 .nil) (xs.getD 8 .nil) (xs.getD 9 .nil) (xs.getD 10 .nil) (xs.getD 11 .nil) (xs.getD 12 .nil) (xs.getD 13 .nil) (xs.getD 14 .nil) (xs.getD 15 .nil) (xs.getD 16 .nil) (xs.getD 17 .nil) (xs.getD 18 .nil) (xs.getD 19 .nil) (xs.getD 20 .nil) (xs.getD 21 .nil) (xs.getD 22 .nil) (xs.getD 23 .nil) (xs.getD 24 .nil) (xs.getD 25 .nil) (xs.getD 26 .nil) (xs.getD 27 .nil) (xs.getD 28 .nil) (xs.getD 29 .nil) (xs.getD 30 .nil) (xs.getD 31 .nil) (xs.getD 32 .nil) (xs.getD 33 .nil) (xs.getD 34 .nil)) ∧
 (∀ (f : C → C → C → C → C → C → C → C → C → C → C → C → C → C → C → C → C → C → C → C → C → C → C → C → C → C → C → C → C → C → C → C → C → C → C → C → R) xs, ap36 f xs = f (xs.getD 0 .nil) (xs.getD 1 .nil) (xs.getD 2 .nil) (xs.getD 3 .nil) (xs.getD 4 .nil) (xs.getD 5 .nil) (xs.getD 6 .nil) (xs.getD 7 .nil) (xs.getD 8 .nil) (xs.getD 9 .nil) (xs.getD 10 .nil) (xs.getD 11 .nil) (xs.getD 12 .nil) (xs.getD 13 .nil) (xs.getD 14 .nil) (xs.getD 15 .nil) (xs.getD 16 .nil) (xs.getD 17 .nil) (xs.getD 18 .nil) (xs.getD 19 .nil) (xs.getD 20 .nil) (xs.getD 21 .nil) (xs.getD 22 .nil) (xs.getD 23 .nil) (xs.getD 24 .nil) (xs.getD 25 .nil) (xs.getD 26 .nil) (xs.getD 27 .nil) (xs.getD 28 .nil) (xs.getD 29 .nil) (xs.getD 30 .nil) (xs.getD 31 .nil) (xs.getD 32 .nil) (xs.getD 33 .nil) (xs.getD 34 .nil) (xs.getD 35 .nil)) ∧
 (∀ (f : C → C → C → C → C → C → C → C → C → C → C → C → C → C → C → C → C → C → C → C → C → C → C → C → C → C → C → C → C → C → C → C → C → C → C → C → C → R) xs, ap37 f xs = f (xs.getD 0 .nil) (xs.getD 1 .nil) (xs.getD 2 .nil) (xs.getD 3 .nil) (xs.getD 4 .nil) (xs.getD 5 .nil) (xs.getD 6 .nil) (xs.getD 7 .nil) (xs.getD 8 .nil) (xs.getD 9 .nil) (xs.getD 10 .nil) (xs.getD 11 .nil) (xs.getD 12 .nil) (xs.getD 13 .nil) (xs.getD 14 .nil) (xs.getD 15 .nil) (xs.getD 16 .nil) (xs.getD 17 .nil) (xs.getD 18 .nil) (xs.getD 19 .nil) (xs.getD 20 .nil) (xs.getD 21 .nil) (xs.getD 22 .nil) (xs.getD 23 .nil) (xs.getD 24 .nil) (xs.getD 25 .nil) (xs.getD 26 .nil) (xs.getD 27 .nil) (xs.getD 28 .nil) (xs.getD 29 .nil) (xs.getD 30 .nil) (xs.getD 31 .nil) (xs.getD 32 .nil) (xs.getD 33 .nil) (xs.getD 34 .nil) (xs.getD 35 .nil) (xs.getD 36 .nil)) ∧
 (∀ (f : C → C → C → C → C → C → C → C → C → C → C → C → C → C → C → C → C → C → C → C → C → C → C → C → C → C → C → C → C → C → C → C → C → C → C → C → C → C → R) xs, ap38 f xs = f (xs.getD 0 .nil) (xs.getD 1 .nil) (xs.getD 2 .nil) (xs.getD 3 .nil) (xs.getD 4 .nil) (xs.getD 5 .nil) (xs.getD 6 .nil) (xs.getD 7 .nil) (xs.getD 8 .nil) (xs.getD 9 .nil) (xs.getD 10 .nil) (xs.getD 11 .nil) (xs.getD 12 .nil) (xs.getD 13 .nil) (xs.getD 14 .nil) (xs.getD 15 .nil) (xs.getD 16 .nil) (xs.getD 17 .nil) (xs.getD 18 .nil) (xs.getD 19 .nil) (xs.getD 20 .nil) (xs.getD 21 .nil) (xs.getD 22 .nil) (xs.getD 23 .nil) (xs.getD 24 .nil) (xs.getD 25 .nil) (xs.getD 26 .nil) (xs.getD 27 .nil) (xs.getD 28 .nil) (xs.getD 29 .nil) (xs.getD 30 .nil) (xs.getD 31 .nil) (xs.getD 32 .nil) (xs.getD 33 .nil) (xs.getD 34 .nil) (xs.getD 35 .nil) (xs.getD 36 .nil) (xs.getD 37 .nil)) ∧
 (∀ (f : C → C → C → C → C → C → C → C → C → C → C → C → C → C → C → C → C → C → C → C → C → C → C → C → C → C → C → C → C → C → C → C → C → C → C → C → C → C → C → R) xs, ap39 f xs = f (xs.getD 0 .nil) (xs.getD 1 .nil) (xs.getD 2 .nil) (xs.getD 3 .nil) (xs.getD 4 .nil) (xs.getD 5 .nil) (xs.getD 6 .nil) (xs.getD 7 .nil) (xs.getD 8 .nil) (xs.getD 9 .nil) (xs.getD 10 .nil) (xs.getD 11 .nil) (xs.getD 12 .nil) (xs.getD 13 .nil) (xs.getD 14 .nil) (xs.getD 15 .nil) (xs.getD 16 .nil) (xs.getD 17 .nil) (xs.getD 18 .nil) (xs.getD 19 .nil) (xs.getD 20 .nil) (xs.getD 21 .nil) (xs.getD 22 .nil) (xs.getD 23 .nil) (xs.getD 24 .nil) (xs.getD 25 .nil) (xs.getD 26 .nil) (xs.getD 27 .nil) (xs.getD 28 .nil) (xs.getD 29 .nil) (xs.getD 30 .nil) (xs.getD 31 .nil) (xs.getD 32 .nil) (xs.getD 33 .nil) (xs.getD 34 .nil) (xs.getD 35 .nil) (xs.getD 36 .nil) (xs.getD 37 .nil) (xs.getD 38 .nil)) ∧
 (∀ (f : C → C → C → C → C → C → C → C → C → C → C → C → C → C → C → C → C → C → C → C → C → C → C → C → C → C → C → C → C → C → C → C → C → C → C → C → C → C → C → C → R) xs, ap40 f xs = f (xs.getD 0 .nil) (xs.getD 1 .nil) (xs.getD 2 .nil) (xs.getD 3 .nil) (xs.getD 4 .nil) (xs.getD 5 .nil) (xs.getD 6 .nil) (xs.getD 7 .nil) (xs.getD 8 .nil) (xs.getD 9 .nil) (xs.getD 10 .nil) (xs.getD 11 .nil) (xs.getD 12 .nil) (xs.getD 13 .nil) (xs.getD 14 .nil) (xs.getD 15 .nil) (xs.getD 16 .nil) (xs.getD 17 .nil) (xs.getD 18 .nil) (xs.getD 19 .nil) (xs.getD 20 .nil) (xs.getD 21 .nil) (xs.getD 22 .nil) (xs.getD 23 .nil) (xs.getD 24 .nil) (xs.getD 25 .nil) (xs.getD 26 .nil) (xs.getD 27 .nil) (xs.getD 28 .nil) (xs.getD 29 .nil) (xs.getD 30 .nil) (xs.getD 31 .nil) (xs.getD 32 .nil) (xs.getD 33 .nil) (xs.getD 34 .nil) (xs.getD 35 .nil) (xs.getD 36 .nil) (xs.getD 37 .nil) (xs.getD 38 .nil) (xs.getD 39 .nil)) :=
 ⟨fun {_} {_} {_} {_} => jA, fun {_} _ => jB _, fun {_} {_} {_} {_} => jC, fun {_} {_} {_} {_} {_} => jD, fun _ => jE _, fun _ => jF _, fun _ => jG _, fun _ => jH _, fun _ _ => jI _ _, fun _ _ => jJ _ _, fun _ _ => jK _ _, fun _ _ => jL _ _, fun _ _ _ => jM _ _ _, fun _ _ _ => jN _ _ _, fun _ _ _ => jO _ _ _, fun _ _ _ => jP _ _ _, fun _ _ _ => jQ _ _ _, fun {_} _ _ => jR _ _, fun {_} _ _ => jS _ _, fun _ => jT _, fun _ => jU _, fun _ => jV _, fun {_} {_} {_} _ => jW _, fun _ => jX _, fun _ => jY _, jZ, ja, fun {_} {_} => jb, fun {_} => jc, fun _ => jd _, fun _ _ => rfl, fun _ _ => rfl, fun _ _ => rfl, fun _ _ => rfl, fun _ _ => rfl, fun _ _ => rfl, fun _ _ => rfl, fun _ _ => rfl, fun _ _ => rfl, fun _ _ => rfl, fun _ _ => rfl, fun _ _ => rfl, fun _ _ => rfl, fun _ _ => rfl, fun _ _ => rfl, fun _ _ => rfl, fun _ _ => rfl, fun _ _ => rfl, fun _ _ => rfl, fun _ _ => rfl, fun _ _ => rfl, fun _ _ => rfl, fun _ _ => rfl, fun _ _ => rfl, fun _ _ => rfl, fun _ _ => rfl, fun _ _ => rfl, fun _ _ => rfl, fun _ _ => rfl, fun _ _ => rfl, fun _ _ => rfl, fun _ _ => rfl, fun _ _ => rfl, fun _ _ => rfl, fun _ _ => rfl, fun _ _ => rfl, fun _ _ => rfl, fun _ _ => rfl, fun _ _ => rfl, fun _ _ => rfl, fun _ _ => rfl, fun _ _ => rfl, fun _ _ => rfl, fun _ _ => rfl, fun _ _ => rfl, fun _ _ => rfl, fun _ _ => rfl, fun _ _ => rfl, fun _ _ => rfl, fun _ _ => rfl, fun _ _ => rfl, fun _ _ => rfl, fun _ _ => rfl, fun _ _ => rfl, fun _ _ => rfl, fun _ _ => rfl, fun _ _ => rfl, fun _ _ => rfl, fun _ _ => rfl, fun _ _ => rfl, fun _ _ => rfl, fun _ _ => rfl, fun _ _ => rfl, fun _ _ => rfl⟩
theorem iter_mono {body : List C → R} : ∀ {k m : Nat} {xs : List C} {o : Out}, k ≤ m → iter body k xs = some o → iter body m xs = some o
  | 0, _, xs, o, _, h => by simp [iter] at h
  | k + 1, 0, xs, o, hk, h => by omega
  | k + 1, m + 1, xs, o, hk, h => by
    simp only [iter] at h ⊢
    split
    · rename_i ys hb
      rw [hb] at h
      exact iter_mono (by omega) h
    · rename_i hb
      split at h
      · rename_i ys hb'; exact absurd hb' (hb ys)
      · exact h
theorem lim_of_iter {body : List C → R} {k : Nat} {xs : List C} {o : Out} (h : iter body k xs = some o) : lim body xs = some o := by
  have hex : ∃ k, (iter body k xs).isSome := ⟨k, by rw [h]; rfl⟩
  unfold lim
  rw [dif_pos hex]
  have hs := Classical.choose_spec hex
  obtain ⟨o', ho'⟩ := Option.isSome_iff_exists.1 hs
  rw [ho']
  rcases Nat.le_total k (Classical.choose hex) with hle | hle
  · rw [iter_mono hle h] at ho'; exact ho'.symm
  · rw [iter_mono hle ho'] at h; exact h
theorem lim_again {body : List C → R} {xs ys : List C} (h : body xs = some (.again ys)) : lim body xs = lim body ys := by
  have key : ∀ k, iter body (k + 1) xs = iter body k ys := fun k => by simp only [iter, h]
  cases hr : lim body ys with
  | some o =>
    obtain ⟨k, hk⟩ := lim_some hr
    exact lim_of_iter (k := k + 1) (by rw [key]; exact hk)
  | none =>
    cases hl : lim body xs with
    | none => rfl
    | some o =>
      obtain ⟨k, hk⟩ := lim_some hl
      cases k with
      | zero => simp [iter] at hk
      | succ k => rw [key] at hk; rw [lim_of_iter hk] at hr; simp at hr
theorem lim_ret {body : List C → R} {xs ys : List C} (h : body xs = some (.ret ys)) : lim body xs = some (.ret ys) := lim_of_iter (k := 1) (by simp only [iter, h])
theorem lim_brk {body : List C → R} {xs ys : List C} {i : Nat} (h : body xs = some (.brk i ys)) : lim body xs = some (.brk i ys) := lim_of_iter (k := 1) (by simp only [iter, h])
theorem w64_of {n : Int} (h1 : -9223372036854775808 ≤ n) (h2 : n ≤ 9223372036854775807) : w64 n = n := by
  show (if (true && decide (n % 18446744073709551616 ≥ 9223372036854775808)) = true then n % 18446744073709551616 - 18446744073709551616 else n % 18446744073709551616) = n
  split
  · rename_i h; simp only [Bool.true_and, decide_eq_true_eq] at h; omega
  · rename_i h; simp only [Bool.true_and, decide_eq_true_eq] at h; omega
theorem getD_map_lt {α β : Type} (f : α → β) {l : List α} {i : Nat} (h : i < l.length) (d : β) : (l.map f).getD i d = f l[i] := by
  rw [List.getD_eq_getElem?_getD, List.getElem?_map, List.getElem?_eq_getElem h]; rfl
def loopL {α σ : Type} (f : Nat → α → σ → σ ⊕ Out) (fin : σ → Out) : List α → Nat → σ → Out
  | [], _, a => fin a
  | x :: r, i, a => match f i x a with
    | .inl b => loopL f fin r (i + 1) b
    | .inr o => o
def Out.stops : Out → Prop | .again _ => False | _ => True
theorem lim_stop {body : List C → R} {xs : List C} {o : Out} (h : body xs = some o) (ho : o.stops) : lim body xs = some o := by
  cases o with
  | ret ys => exact lim_ret h
  | brk i ys => exact lim_brk h
  | nrm ys => exact lim_of_iter (k := 1) (by simp only [iter, h])
  | again ys => exact ho.elim
def StepOk {σ : Type} (body : List C → R) (S : Nat → σ → List C) (Inv : Nat → σ → Prop) (i : Nat) (a : σ) : σ ⊕ Out → Prop
  | .inl b => body (S i a) = some (.again (S (i + 1) b)) ∧ Inv (i + 1) b
  | .inr o => body (S i a) = some o ∧ o.stops
theorem lim_list {α σ : Type} {l : List α} {body : List C → R} {S : Nat → σ → List C} (Inv : Nat → σ → Prop) (f : Nat → α → σ → σ ⊕ Out) (fin : σ → Out)
    (hstep : ∀ (i : Nat) (a : σ) (h : i < l.length), Inv i a → StepOk body S Inv i a (f i l[i] a))
    (hend : ∀ a, Inv l.length a → body (S l.length a) = some (fin a) ∧ (fin a).stops) :
    ∀ (n i : Nat) (a : σ), n + i = l.length → Inv i a → lim body (S i a) = some (loopL f fin (l.drop i) i a)
  | 0, i, a, hn, ha => by
    have : i = l.length := by omega
    subst this
    obtain ⟨h1, h2⟩ := hend a ha
    rw [lim_stop h1 h2, List.drop_length]; rfl
  | n + 1, i, a, hn, ha => by
    have hi : i < l.length := by omega
    have hs := hstep i a hi ha
    rw [List.drop_eq_getElem_cons hi]
    show _ = some (match f i l[i] a with
      | .inl b => loopL f fin (l.drop (i + 1)) (i + 1) b
      | .inr o => o)
    cases hf : f i l[i] a with
    | inl b =>
      rw [hf] at hs
      rw [lim_again hs.1]
      exact lim_list Inv f fin hstep hend n (i + 1) b (by omega) hs.2
    | inr o =>
      rw [hf] at hs
      exact lim_stop hs.1 hs.2
end Go.Ev
namespace Go.Ev
open Go.RowKit
inductive DB (T : Tys) : CT → C → Prop
  | i (k : IntKind) (n : Int) (h : (Lit.int k n).wf = true) : DB T (.int k) (.i n)
  | b (x : Bool) : DB T .bool (.b x)
  | s (x : ByteArray) (h : x.size ≤ maxLen) : DB T .str (.s x)
  | l (e : TypeId) (es : List (List C)) (h : es.length ≤ maxLen) (h1 : ∀ (r : List C) (d : TD), r ∈ es → tget T e = some d → r.length = d.cts.length)
      (h2 : ∀ (r : List C) (d : TD) (j : Nat) (c : C) (ct : CT), r ∈ es → tget T e = some d → r[j]? = some c → d.cts[j]? = some ct → DB T ct c) : DB T (.sl e) (.l es)
theorem cell_some {w : World} {a : Addr} {v : Value} (h : w.cell? a = some v) : a.block < w.heap.size ∧ a.spot = none := by
  simp only [World.cell?] at h
  split at h
  · rename_i c _ _ hb
    refine ⟨?_, ?_⟩
    · exact (Array.getElem?_eq_some_iff.1 hb).1
    · split at h
      · simp at h
      · rename_i hs; simpa using hs
  · simp at h
structure Rd (T : Tys) (w : World) (cts : List CT) (cs : List Value) (xs : List C) : Prop where
  n : xs.length = cts.length
  m : cs.length = cts.length
  rel : ∀ (j : Nat) (c : C) (ct : CT) (v : Value), xs[j]? = some c → cts[j]? = some ct → cs[j]? = some v → RelC T (fun k => k < w.heap.size) w ct c v
  db : ∀ (j : Nat) (c : C) (ct : CT), xs[j]? = some c → cts[j]? = some ct → DB T ct c
theorem Rd.one {T : Tys} {w : World} {ct : CT} {c : C} {v : Value} (h : RelC T (fun k => k < w.heap.size) w ct c v) (hd : DB T ct c) : Rd T w [ct] [v] [c] :=
  ⟨rfl, rfl, fun j c' ct' v' h1 h2 h3 => by
    cases j with
    | zero =>
      simp only [List.getElem?_cons_zero, Option.some.injEq] at h1 h2 h3
      subst h1; subst h2; subst h3; exact h
    | succ j => simp at h1, fun j c' ct' h1 h2 => by
    cases j with
    | zero =>
      simp only [List.getElem?_cons_zero, Option.some.injEq] at h1 h2
      subst h1; subst h2; exact hd
    | succ j => simp at h1⟩
def okFs (f : TypeId → Bool) (T : Tys) : List (Nat × TypeId) → Nat → Nat → Bool
  | [], o, m => Nat.beq o m
  | (o', t) :: r, o, m => andS (Nat.beq o' o) (andS (f t) (match tget T t with | some d => okFs f T r (o + d.cts.length) m | none => false))
def okA : Nat → Tys → TypeId → Bool
  | 0, _, _ => false
  | n + 1, T, t => match tget T t with
    | some d => match d.dv with
      | .int _ => true | .bool => true | .str => true
      | .sl e => okA n T e
      | .st fs => okFs (okA n T) T fs 0 d.cts.length
      | _ => false
    | none => false
theorem list_of {β : Type} {p : Nat → β → Prop} : ∀ (n : Nat), (∀ i, i < n → ∃ y, p i y) → ∃ l : List β, l.length = n ∧ ∀ i y, l[i]? = some y → p i y
  | 0, _ => ⟨[], rfl, fun i y h => by simp at h⟩
  | n + 1, h => by
    obtain ⟨l, h1, h2⟩ := list_of n fun i hi => h i (by omega)
    obtain ⟨y, hy⟩ := h n (by omega)
    refine ⟨l ++ [y], by simp [h1], fun i z hz => ?_⟩
    by_cases hi : i < n
    · rw [List.getElem?_append_left (by omega)] at hz; exact h2 i z hz
    · have hlt := (List.getElem?_eq_some_iff.1 hz).1
      simp [h1] at hlt
      have : i = n := by omega
      subst this
      rw [List.getElem?_append_right (by omega), h1, Nat.sub_self] at hz
      simp at hz; subst hz; exact hy
section
variable {H : Type} {enc : TypeId × Value → H} {P : Program} {w : World} {base : Nat} {sp : Nat → Bool} {held : Bool} {T : Tys}
theorem cellsOf_eq (hT : TOk P T) {t : TypeId} {d : TD} (h : tget T t = some d) : P.cellsOf t = d.cts.length := by
  obtain ⟨i, z, hi, hz, hs, hb, hzc⟩ := (hT t d h).facts
  simp [Program.cellsOf, hi, hs]
theorem rd (hT : TOk P T) : ∀ (n : Nat) (t : TypeId) (d : TD) (fuel : Nat) (cs : List Value) (x : DataW H × List MemPlace), okA n T t = true → tget T t = some d →
    DataW.trod enc P w base sp held fuel t cs = some x → ∃ xs, Rd T w d.cts cs xs
  | 0, t, d, fuel, cs, x, h, _, _ => by simp [okA] at h
  | n + 1, t, d, fuel, cs, x, h, hd, hx => by
    have ht := hT t d hd
    obtain ⟨u, hu, hv⟩ := ht.desc
    have hleaf := ht.leaf
    simp only [okA, hd] at h
    cases u with
    | bool =>
      obtain ⟨b, rfl, _⟩ := DataW.trod_bool hu hx
      rw [← hv] at hleaf; simp only [viewDesc] at hleaf; rw [hleaf]
      exact ⟨_, .one (.bool b) (.b b)⟩
    | int k =>
      obtain ⟨b, rfl, _, hb⟩ := DataW.trod_int hu hx
      rw [← hv] at hleaf; simp only [viewDesc] at hleaf; rw [hleaf]
      exact ⟨_, .one (.int k b) (.i k b hb)⟩
    | string =>
      obtain ⟨b, rfl, _, hb⟩ := DataW.trod_string hu hx
      rw [← hv] at hleaf; simp only [viewDesc] at hleaf; rw [hleaf]
      exact ⟨_, .one (.str b) (.s b hb)⟩
    | slice e =>
      rw [← hv] at hleaf h; simp only [viewDesc] at hleaf h; rw [hleaf]
      rcases DataW.trod_slice hu hx with ⟨rfl, _⟩ | ⟨a, len, cap, elems, rest, m, _, rfl, _, hb, hl, hm, hlen, hel, _, _⟩
      · exact ⟨[.l []], .one (.sl0 e none 0) (.l e [] (by simp) (fun r d hr => by simp at hr) fun r d j c ct hr => by simp at hr)⟩
      · obtain ⟨de, hde⟩ : ∃ de, tget T e = some de := by
          cases n with
          | zero => simp [okA] at h
          | succ n =>
            simp only [okA] at h
            cases hq : tget T e with
            | none => simp [hq] at h
            | some de => exact ⟨de, rfl⟩
        have hpos := (hT e de hde).pos
        have hc := cellsOf_eq hT hde
        obtain ⟨es, h1, h2⟩ := list_of (p := fun i ys => ∃ cs', w.cells? base (a.add (i * P.cellsOf e)) (P.cellsOf e) = some cs' ∧ Rd T w de.cts cs' ys) len fun i hi => by
          have := hel i hi
          rw [List.getElem?_eq_getElem (by omega)] at this
          obtain ⟨cs', q1, q2⟩ := Option.bind_eq_some_iff.1 this
          obtain ⟨ys, q3⟩ := rd hT n e de m cs' _ h hde q2
          exact ⟨ys, cs', q1, q3⟩
        rw [hc] at h2
        have hdb : DB T (.sl e) (.l es) := .l e es (by omega) (fun r d hr hd => by
          obtain ⟨i, hi⟩ := List.getElem?_of_mem hr
          obtain ⟨cs', _, q⟩ := h2 i r hi
          rw [hde] at hd; obtain rfl := Option.some.inj hd
          exact q.n) fun r d j c ct hr hd hc hct => by
          obtain ⟨i, hi⟩ := List.getElem?_of_mem hr
          obtain ⟨cs', _, q⟩ := h2 i r hi
          rw [hde] at hd; obtain rfl := Option.some.inj hd
          exact q.db j c ct hc hct
        rcases Nat.eq_zero_or_pos len with h0 | h0
        · have : es = [] := List.eq_nil_of_length_eq_zero (by omega)
          subst this
          subst h0
          exact ⟨[.l []], .one (.sl0 e (some a) cap) hdb⟩
        · obtain ⟨cs0, q1, q2⟩ := h2 0 es[0] (List.getElem?_eq_getElem (by omega))
          obtain ⟨_, q3, q4⟩ := World.cells?_some q1
          have q5 := q4 0 hpos
          rw [List.getElem?_eq_getElem (by omega)] at q5
          have q6 := cell_some q5
          obtain ⟨g, o, spt⟩ := a
          have hspot : spt = none := by
            by_cases he : spt = none
            · exact he
            · simp [Addr.add] at q6; exact q6.2
          subst hspot
          simp only [Addr.add_lit] at q6
          have hg : g < w.heap.size := q6.1
          have key := RelC.sl (T := T) (F := fun k => k < w.heap.size) (w := w) e de es g o cap (fun i j => (w.cell? ⟨g, o + (i * de.cts.length + j), none⟩).getD undef) hde hg (by omega)
            (fun i ys hi => by
              obtain ⟨cs', _, q⟩ := h2 i ys hi
              exact q.n)
            (fun i ys j c hi hj => by
              obtain ⟨cs', p1, q⟩ := h2 i ys hi
              obtain ⟨_, p2, p3⟩ := World.cells?_some p1
              have hjl : j < de.cts.length := by rw [← q.n]; exact (List.getElem?_eq_some_iff.1 hj).1
              have p4 := p3 j hjl
              rw [List.getElem?_eq_getElem (by omega)] at p4
              simp only [Addr.add_lit] at p4
              rw [← Nat.add_assoc, p4]; rfl)
            (fun i ys j c ct hi hj hct => by
              obtain ⟨cs', p1, q⟩ := h2 i ys hi
              obtain ⟨_, p2, p3⟩ := World.cells?_some p1
              have hjl : j < de.cts.length := by rw [← q.n]; exact (List.getElem?_eq_some_iff.1 hj).1
              have p4 := p3 j hjl
              rw [List.getElem?_eq_getElem (by omega)] at p4
              simp only [Addr.add_lit] at p4
              rw [← Nat.add_assoc, p4]
              exact q.rel j c ct _ hj hct (List.getElem?_eq_getElem (by omega)))
          rw [h1] at key
          exact ⟨[.l es], .one key hdb⟩
    | struct fs =>
      obtain ⟨zs, m, _, _, hl, hz, hf⟩ := DataW.trod_struct hu hx
      rw [← hv] at hleaf h; simp only [viewDesc] at hleaf h
      rw [cellsOf_eq hT hd] at hl
      have key : ∀ (l : List Field) (o : Nat), okFs (okA n T) T (viewFields l) o d.cts.length = true → (∀ q, q ∈ viewFields l → q ∈ viewFields fs.toList) → (∀ f, f ∈ l → ∃ z, DataW.trod enc P w base sp held m f.type ((cs.drop f.offset).take (P.cellsOf f.type)) = some z) →
          ∃ xs : List C, xs.length + o = d.cts.length ∧ (∀ (j : Nat) (c : C) (ct : CT) (v : Value), xs[j]? = some c → d.cts[o + j]? = some ct → cs[o + j]? = some v → RelC T (fun k => k < w.heap.size) w ct c v) ∧ ∀ (j : Nat) (c : C) (ct : CT), xs[j]? = some c → d.cts[o + j]? = some ct → DB T ct c := by
        intro l
        induction l with
        | nil =>
          intro o h _ _
          simp only [viewFields, List.map_nil, okFs] at h
          exact ⟨[], by simpa using Nat.eq_of_beq_eq_true h, fun j c ct v h => by simp at h, fun j c ct h => by simp at h⟩
        | cons f l ih =>
          intro o h hin hall
          simp only [viewFields, List.map_cons, okFs, andS_eq, Bool.and_eq_true] at h
          obtain ⟨ho, hok, h⟩ := h
          have ho := Nat.eq_of_beq_eq_true ho
          cases hdf : tget T f.type with
          | none => simp [hdf] at h
          | some df =>
            simp only [hdf] at h
            obtain ⟨z, hz⟩ := hall f (by simp)
            obtain ⟨ys, hys⟩ := rd hT n f.type df m _ z hok hdf hz
            obtain ⟨xs, h1, h2, h3⟩ := ih (o + df.cts.length) h (fun q hq => hin q (by simp only [viewFields, List.map_cons, List.mem_cons]; exact .inr hq)) (fun f' hf' => hall f' (by simp [hf']))
            have hsub := hleaf f.offset f.type (hin _ (by simp [viewFields])) df hdf
            rw [cellsOf_eq hT hdf] at hys
            rw [ho] at hsub hys
            refine ⟨ys ++ xs, by rw [List.length_append, hys.n]; omega, fun j c ct v a1 a2 a3 => ?_, fun j c ct a1 a2 => ?_⟩
            · by_cases hj : j < ys.length
              · rw [List.getElem?_append_left hj] at a1
                have hjl : j < df.cts.length := by rw [← hys.n]; exact hj
                refine hys.rel j c ct v a1 ?_ ?_
                · rw [← hsub, List.getElem?_take_of_lt hjl, List.getElem?_drop]; exact a2
                · rw [List.getElem?_take_of_lt hjl, List.getElem?_drop]; exact a3
              · rw [List.getElem?_append_right (by omega)] at a1
                have e : o + df.cts.length + (j - ys.length) = o + j := by rw [hys.n] at hj ⊢; omega
                exact h2 (j - ys.length) c ct v a1 (by rw [e]; exact a2) (by rw [e]; exact a3)
            · by_cases hj : j < ys.length
              · rw [List.getElem?_append_left hj] at a1
                have hjl : j < df.cts.length := by rw [← hys.n]; exact hj
                refine hys.db j c ct a1 ?_
                rw [← hsub, List.getElem?_take_of_lt hjl, List.getElem?_drop]; exact a2
              · rw [List.getElem?_append_right (by omega)] at a1
                have e : o + df.cts.length + (j - ys.length) = o + j := by rw [hys.n] at hj ⊢; omega
                exact h3 (j - ys.length) c ct a1 (by rw [e]; exact a2)
      obtain ⟨xs, h1, h2, h3⟩ := key fs.toList 0 h (fun _ h => h) (fun f hf' => by
        obtain ⟨i, hi⟩ := List.getElem?_of_mem hf'
        have hi' : fs[i]? = some f := by simpa using hi
        have := hf i f hi'
        have hil : i < zs.length := by rw [hz]; exact (Array.getElem?_eq_some_iff.1 hi').1
        rw [List.getElem?_eq_getElem hil] at this
        exact ⟨_, this⟩)
      exact ⟨xs, by simpa using h1, hl, fun j c ct v a1 a2 a3 => h2 j c ct v a1 (by simpa using a2) (by simpa using a3), fun j c ct a1 a2 => h3 j c ct a1 (by simpa using a2)⟩
    | _ => rw [← hv] at h; simp [viewDesc] at h
end
theorem ag_rel {T : Tys} {w : World} {bx : Bxs} {θ : Nat → Value} {cts : List CT} {vs : List Value} {xs : List C} (h : Rd T w cts vs xs) : RelV T (fun k => k < w.heap.size) w bx θ (.ag (List.zipWith V.c cts xs)) (.agg vs.toArray) := by
  refine .ag _ vs (by simp [h.n, h.m]) fun i x v h1 h2 => ?_
  rw [List.getElem?_zipWith] at h1
  split at h1
  · rename_i ct c e1 e2
    simp only [Option.some.injEq] at h1
    subst h1
    exact .c _ _ _ (h.rel i c ct v e2 e1 h2)
  · simp at h1
theorem lawN {P : Program} {T : Tys} {f n : Nat} {sl : List (Nat × Sk)} {Fn : List C → Option (List C)} (hf : FSOk P T f ⟨n, ⟨sl, []⟩, ⟨[(0, .d .bool)], []⟩, [], Fn⟩)
    (xs : List C) (args : Array Value) (W : World) (hs : args.size = n) (ha : ∀ k, k < n → RelV T (fun k => k < W.heap.size) W (fun _ => none) (fun _ => .bool false) (((⟨sl, []⟩ : Tm).inj xs).sl k) (args.getD k undef)) (hF : Fn xs = some [.b true]) :
    Calls P f args W fun e W' => e = .returned (.bool true) ∧ Below W.heap.size W W' := by
  refine (hf.calls W (fun _ => False) (fun k => k < W.heap.size) (fun _ => .bool false) xs [.b true] args ?_ hs ha hF).mono ?_
  · exact ⟨fun b x h => (by cases h), fun b b' x x' g h => (by cases h), fun b x g h => (by cases h), fun k h => h, ⟨rfl, rfl, rfl, Nat.le_refl _, fun _ _ _ => rfl⟩, fun k h => h, fun k h => .inl h, fun n hn => (by cases hn)⟩
  · rintro e W' ⟨v, F1, θ1, rfl, hw, hv, _⟩
    have hv' : RelV T F1 W' _ θ1 (.c .bool (.b true)) v := hv
    cases hv' with
    | c _ _ _ h =>
      cases h
      exact ⟨rfl, ⟨hw.keep.os, hw.keep.tape, hw.keep.output, hw.keep.size, fun k hk => hw.keep.old k hk (fun h => h)⟩⟩
end Go.Ev
set_option maxRecDepth 100000
namespace Go.Ev
open Go.Proofs
def zi : Sk := .d (.int .i64)
def zt : Sk := .d .str
def zo : Sk := .d .bool
def zl (n : Nat) : Sk := .d (.sl n)
def z0 : BSk := .var 63 [zt, zt, zi, zi, zi, zi, zt, (zl 111), zi, zt, zt, zt]
def z1 : BSk := .var 35 [zo, (zl 54), (zl 84), (zl 63)]
def z2 : Sk := (.ag [zo, (zl 54), (zl 84), (zl 63)])
def z3 : BSk := .var 54 [zt, zt, (zl 9), zi, zi, zo]
def z4 : Sk := (.ag [zt, zt, zi, zi, zi, zi, zt, (zl 111), zi, zt, zt, zt])
def z5 : BSk := .var 42 [zi, zi, zi, zi]
def z6 : Sk := (.ag [zt, zt, (zl 9), zi, zi, zo])
def z7 : Sk := (.ag [zo, (zl 95), (zl 97), (zl 101)])
def T0 : Tys := [(1, ⟨.fn, [.fn], 8⟩),
  (2, ⟨(.int .i64), [(.int .i64)], 8⟩),
  (3, ⟨(.int .i64), [(.int .i64)], 8⟩),
  (4, ⟨.bool, [.bool], 1⟩),
  (5, ⟨(.int .u8), [(.int .u8)], 1⟩),
  (6, ⟨(.int .u8), [(.int .u8)], 1⟩),
  (7, ⟨(.st [(0, 2), (1, 3), (2, 4), (3, 6)]), [(.int .i64), (.int .i64), .bool, (.int .u8)], 24⟩),
  (8, ⟨(.st [(0, 2), (1, 3), (2, 4), (3, 6)]), [(.int .i64), (.int .i64), .bool, (.int .u8)], 24⟩),
  (9, ⟨.str, [.str], 16⟩),
  (10, ⟨.str, [.str], 16⟩),
  (11, ⟨.str, [.str], 16⟩),
  (12, ⟨(.int .u64), [(.int .u64)], 8⟩),
  (13, ⟨(.st [(0, 9), (1, 12)]), [.str, (.int .u64)], 24⟩),
  (14, ⟨(.st [(0, 9), (1, 12)]), [.str, (.int .u64)], 24⟩),
  (15, ⟨(.pt 211), [(.pt 211)], 8⟩),
  (16, ⟨(.pt 214), [(.pt 214)], 8⟩),
  (17, ⟨(.pt 222), [(.pt 222)], 8⟩),
  (18, ⟨(.st [(0, 17)]), [(.pt 222)], 8⟩),
  (19, ⟨(.st [(0, 17)]), [(.pt 222)], 8⟩),
  (21, ⟨(.int .i32), [(.int .i32)], 4⟩),
  (22, ⟨(.sl 95), [(.sl 95)], 24⟩),
  (23, ⟨(.sl 97), [(.sl 97)], 24⟩),
  (24, ⟨(.sl 101), [(.sl 101)], 24⟩),
  (25, ⟨(.st [(0, 4), (1, 22), (2, 23), (3, 24)]), [.bool, (.sl 95), (.sl 97), (.sl 101)], 80⟩),
  (26, ⟨(.st [(0, 4), (1, 22), (2, 23), (3, 24)]), [.bool, (.sl 95), (.sl 97), (.sl 101)], 80⟩),
  (27, ⟨(.sl 9), [(.sl 9)], 24⟩),
  (28, ⟨.fn, [.fn], 8⟩),
  (29, ⟨.fn, [.fn], 8⟩),
  (30, ⟨.fn, [.fn], 8⟩),
  (31, ⟨(.sl 54), [(.sl 54)], 24⟩),
  (32, ⟨(.sl 84), [(.sl 84)], 24⟩),
  (33, ⟨(.sl 63), [(.sl 63)], 24⟩),
  (34, ⟨(.st [(0, 4), (1, 31), (2, 32), (3, 33)]), [.bool, (.sl 54), (.sl 84), (.sl 63)], 80⟩),
  (35, ⟨(.st [(0, 4), (1, 31), (2, 32), (3, 33)]), [.bool, (.sl 54), (.sl 84), (.sl 63)], 80⟩),
  (36, ⟨.fn, [.fn], 8⟩),
  (37, ⟨.fn, [.fn], 8⟩),
  (38, ⟨.fn, [.fn], 8⟩),
  (39, ⟨.fn, [.fn], 8⟩),
  (40, ⟨.fn, [.fn], 8⟩),
  (41, ⟨(.st [(0, 3), (1, 3), (2, 3), (3, 3)]), [(.int .i64), (.int .i64), (.int .i64), (.int .i64)], 32⟩),
  (42, ⟨(.st [(0, 3), (1, 3), (2, 3), (3, 3)]), [(.int .i64), (.int .i64), (.int .i64), (.int .i64)], 32⟩),
  (43, ⟨.fn, [.fn], 8⟩),
  (44, ⟨.fn, [.fn], 8⟩),
  (45, ⟨.fn, [.fn], 8⟩),
  (46, ⟨.fn, [.fn], 8⟩),
  (47, ⟨(.sl 5), [(.sl 5)], 24⟩),
  (49, ⟨.fn, [.fn], 8⟩),
  (50, ⟨.fn, [.fn], 8⟩),
  (51, ⟨.fn, [.fn], 8⟩),
  (52, ⟨.fn, [.fn], 8⟩),
  (53, ⟨(.st [(0, 9), (1, 9), (2, 27), (3, 3), (4, 3), (5, 4)]), [.str, .str, (.sl 9), (.int .i64), (.int .i64), .bool], 80⟩),
  (54, ⟨(.st [(0, 9), (1, 9), (2, 27), (3, 3), (4, 3), (5, 4)]), [.str, .str, (.sl 9), (.int .i64), (.int .i64), .bool], 80⟩),
  (55, ⟨.fn, [.fn], 8⟩),
  (56, ⟨.fn, [.fn], 8⟩),
  (57, ⟨.fn, [.fn], 8⟩),
  (58, ⟨.fn, [.fn], 8⟩),
  (60, ⟨.fn, [.fn], 8⟩),
  (61, ⟨(.sl 111), [(.sl 111)], 24⟩),
  (62, ⟨(.st [(0, 9), (1, 9), (2, 3), (3, 3), (4, 3), (5, 3), (6, 9), (7, 61), (8, 3), (9, 9), (10, 9), (11, 9)]), [.str, .str, (.int .i64), (.int .i64), (.int .i64), (.int .i64), .str, (.sl 111), (.int .i64), .str, .str, .str], 160⟩),
  (63, ⟨(.st [(0, 9), (1, 9), (2, 3), (3, 3), (4, 3), (5, 3), (6, 9), (7, 61), (8, 3), (9, 9), (10, 9), (11, 9)]), [.str, .str, (.int .i64), (.int .i64), (.int .i64), (.int .i64), .str, (.sl 111), (.int .i64), .str, .str, .str], 160⟩),
  (65, ⟨.fn, [.fn], 8⟩),
  (66, ⟨.fn, [.fn], 8⟩),
  (67, ⟨.fn, [.fn], 8⟩),
  (68, ⟨.fn, [.fn], 8⟩),
  (69, ⟨.fn, [.fn], 8⟩),
  (70, ⟨.fn, [.fn], 8⟩),
  (71, ⟨.fn, [.fn], 8⟩),
  (72, ⟨.fn, [.fn], 8⟩),
  (73, ⟨.fn, [.fn], 8⟩),
  (74, ⟨.fn, [.fn], 8⟩),
  (75, ⟨.fn, [.fn], 8⟩),
  (76, ⟨.fn, [.fn], 8⟩),
  (77, ⟨.fn, [.fn], 8⟩),
  (78, ⟨.fn, [.fn], 8⟩),
  (79, ⟨(.pt 116), [(.pt 116)], 8⟩),
  (80, ⟨.fn, [.fn], 8⟩),
  (81, ⟨.fn, [.fn], 8⟩),
  (82, ⟨.fn, [.fn], 8⟩),
  (83, ⟨(.st [(0, 9), (1, 3)]), [.str, (.int .i64)], 24⟩),
  (84, ⟨(.st [(0, 9), (1, 3)]), [.str, (.int .i64)], 24⟩),
  (85, ⟨.fn, [.fn], 8⟩),
  (86, ⟨.fn, [.fn], 8⟩),
  (87, ⟨.fn, [.fn], 8⟩),
  (89, ⟨.fn, [.fn], 8⟩),
  (90, ⟨.fn, [.fn], 8⟩),
  (93, ⟨.fn, [.fn], 8⟩),
  (94, ⟨.fn, [.fn], 8⟩),
  (95, ⟨(.st [(0, 9), (1, 9), (2, 27), (3, 3), (4, 3), (5, 4)]), [.str, .str, (.sl 9), (.int .i64), (.int .i64), .bool], 80⟩),
  (96, ⟨.fn, [.fn], 8⟩),
  (97, ⟨(.st [(0, 9), (1, 3)]), [.str, (.int .i64)], 24⟩),
  (98, ⟨.fn, [.fn], 8⟩),
  (99, ⟨(.sl 158), [(.sl 158)], 24⟩),
  (100, ⟨(.st [(0, 9), (1, 9), (2, 3), (3, 3), (4, 3), (5, 3), (6, 9), (7, 99), (8, 3), (9, 9), (10, 9), (11, 9)]), [.str, .str, (.int .i64), (.int .i64), (.int .i64), (.int .i64), .str, (.sl 158), (.int .i64), .str, .str, .str], 160⟩),
  (101, ⟨(.st [(0, 9), (1, 9), (2, 3), (3, 3), (4, 3), (5, 3), (6, 9), (7, 99), (8, 3), (9, 9), (10, 9), (11, 9)]), [.str, .str, (.int .i64), (.int .i64), (.int .i64), (.int .i64), .str, (.sl 158), (.int .i64), .str, .str, .str], 160⟩),
  (102, ⟨.fn, [.fn], 8⟩),
  (103, ⟨.fn, [.fn], 8⟩),
  (104, ⟨.fn, [.fn], 8⟩),
  (105, ⟨.fn, [.fn], 8⟩),
  (106, ⟨.fn, [.fn], 8⟩),
  (107, ⟨.fn, [.fn], 8⟩),
  (108, ⟨.fn, [.fn], 8⟩),
  (109, ⟨.fn, [.fn], 8⟩),
  (110, ⟨(.st [(0, 9), (1, 3)]), [.str, (.int .i64)], 24⟩),
  (111, ⟨(.st [(0, 9), (1, 3)]), [.str, (.int .i64)], 24⟩),
  (112, ⟨.fn, [.fn], 8⟩),
  (113, ⟨.fn, [.fn], 8⟩),
  (114, ⟨.fn, [.fn], 8⟩),
  (115, ⟨(.st [(0, 47), (1, 3)]), [(.sl 5), (.int .i64)], 32⟩),
  (116, ⟨(.st [(0, 47), (1, 3)]), [(.sl 5), (.int .i64)], 32⟩),
  (117, ⟨.fn, [.fn], 8⟩),
  (118, ⟨.fn, [.fn], 8⟩),
  (119, ⟨.fn, [.fn], 8⟩),
  (120, ⟨.fn, [.fn], 8⟩),
  (122, ⟨.fn, [.fn], 8⟩),
  (123, ⟨(.pt 151), [(.pt 151)], 8⟩),
  (125, ⟨.fn, [.fn], 8⟩),
  (126, ⟨.fn, [.fn], 8⟩),
  (127, ⟨.fn, [.fn], 8⟩),
  (128, ⟨.fn, [.fn], 8⟩),
  (129, ⟨(.sl 164), [(.sl 164)], 24⟩),
  (130, ⟨(.st [(0, 129)]), [(.sl 164)], 24⟩),
  (131, ⟨(.st [(0, 129)]), [(.sl 164)], 24⟩),
  (133, ⟨.fn, [.fn], 8⟩),
  (134, ⟨.fn, [.fn], 8⟩),
  (135, ⟨.fn, [.fn], 8⟩),
  (136, ⟨.fn, [.fn], 8⟩),
  (137, ⟨.fn, [.fn], 8⟩),
  (139, ⟨.fn, [.fn], 8⟩),
  (140, ⟨.fn, [.fn], 8⟩),
  (141, ⟨(.st [(0, 3), (1, 54), (7, 63), (19, 9), (20, 9)]), [(.int .i64), .str, .str, (.sl 9), (.int .i64), (.int .i64), .bool, .str, .str, (.int .i64), (.int .i64), (.int .i64), (.int .i64), .str, (.sl 111), (.int .i64), .str, .str, .str, .str, .str], 280⟩),
  (142, ⟨(.st [(0, 3), (1, 54), (7, 63), (19, 9), (20, 9)]), [(.int .i64), .str, .str, (.sl 9), (.int .i64), (.int .i64), .bool, .str, .str, (.int .i64), (.int .i64), (.int .i64), (.int .i64), .str, (.sl 111), (.int .i64), .str, .str, .str, .str, .str], 280⟩),
  (143, ⟨.fn, [.fn], 8⟩),
  (144, ⟨.fn, [.fn], 8⟩),
  (145, ⟨(.sl 27), [(.sl 27)], 24⟩),
  (146, ⟨(.sl 3), [(.sl 3)], 24⟩),
  (147, ⟨.fn, [.fn], 8⟩),
  (148, ⟨.fn, [.fn], 8⟩),
  (149, ⟨(.sl 123), [(.sl 123)], 24⟩),
  (150, ⟨(.st [(0, 3), (1, 9), (2, 9), (3, 149)]), [(.int .i64), .str, .str, (.sl 123)], 64⟩),
  (151, ⟨(.st [(0, 3), (1, 9), (2, 9), (3, 149)]), [(.int .i64), .str, .str, (.sl 123)], 64⟩),
  (152, ⟨(.pt 154), [(.pt 154)], 8⟩),
  (153, ⟨(.st [(0, 9), (1, 3), (2, 4)]), [.str, (.int .i64), .bool], 32⟩),
  (154, ⟨(.st [(0, 9), (1, 3), (2, 4)]), [.str, (.int .i64), .bool], 32⟩),
  (155, ⟨.fn, [.fn], 8⟩),
  (156, ⟨.fn, [.fn], 8⟩),
  (157, ⟨.fn, [.fn], 8⟩),
  (158, ⟨(.st [(0, 9), (1, 3)]), [.str, (.int .i64)], 24⟩),
  (159, ⟨.fn, [.fn], 8⟩),
  (160, ⟨.fn, [.fn], 8⟩),
  (162, ⟨.fn, [.fn], 8⟩),
  (163, ⟨(.st [(0, 3), (1, 9), (2, 9), (3, 3)]), [(.int .i64), .str, .str, (.int .i64)], 48⟩),
  (164, ⟨(.st [(0, 3), (1, 9), (2, 9), (3, 3)]), [(.int .i64), .str, .str, (.int .i64)], 48⟩),
  (165, ⟨(.pt 167), [(.pt 167)], 8⟩),
  (166, ⟨(.st [(0, 27), (1, 3), (2, 4)]), [(.sl 9), (.int .i64), .bool], 40⟩),
  (167, ⟨(.st [(0, 27), (1, 3), (2, 4)]), [(.sl 9), (.int .i64), .bool], 40⟩),
  (168, ⟨.fn, [.fn], 8⟩),
  (169, ⟨.fn, [.fn], 8⟩),
  (170, ⟨(.sl 146), [(.sl 146)], 24⟩),
  (172, ⟨.fn, [.fn], 8⟩),
  (173, ⟨.fn, [.fn], 8⟩),
  (174, ⟨.fn, [.fn], 8⟩),
  (176, ⟨.fn, [.fn], 8⟩),
  (177, ⟨.fn, [.fn], 8⟩),
  (178, ⟨.fn, [.fn], 8⟩),
  (179, ⟨.fn, [.fn], 8⟩),
  (180, ⟨.fn, [.fn], 8⟩),
  (184, ⟨.fn, [.fn], 8⟩),
  (185, ⟨.fn, [.fn], 8⟩),
  (186, ⟨(.pt 182), [(.pt 182)], 8⟩),
  (187, ⟨.fn, [.fn], 8⟩),
  (188, ⟨.fn, [.fn], 8⟩),
  (189, ⟨.fn, [.fn], 8⟩),
  (190, ⟨.fn, [.fn], 8⟩),
  (191, ⟨.fn, [.fn], 8⟩),
  (193, ⟨.fn, [.fn], 8⟩),
  (194, ⟨.fn, [.fn], 8⟩),
  (195, ⟨(.sl 129), [(.sl 129)], 24⟩),
  (196, ⟨.fn, [.fn], 8⟩),
  (197, ⟨.fn, [.fn], 8⟩),
  (198, ⟨.fn, [.fn], 8⟩),
  (199, ⟨(.int .u64), [(.int .u64)], 8⟩),
  (200, ⟨.fn, [.fn], 8⟩),
  (201, ⟨.fn, [.fn], 8⟩),
  (202, ⟨(.int .u32), [(.int .u32)], 4⟩),
  (204, ⟨.fn, [.fn], 8⟩),
  (206, ⟨(.st [(0, 5), (1, 5)]), [(.int .u8), (.int .u8)], 2⟩),
  (207, ⟨(.st [(0, 5), (1, 5)]), [(.int .u8), (.int .u8)], 2⟩),
  (209, ⟨.fn, [.fn], 8⟩),
  (210, ⟨(.st [(0, 17), (1, 17), (2, 17), (3, 9)]), [(.pt 222), (.pt 222), (.pt 222), .str], 40⟩),
  (211, ⟨(.st [(0, 17), (1, 17), (2, 17), (3, 9)]), [(.pt 222), (.pt 222), (.pt 222), .str], 40⟩),
  (215, ⟨(.int .u8), [(.int .u8)], 1⟩),
  (216, ⟨(.int .u8), [(.int .u8)], 1⟩),
  (217, ⟨.fn, [.fn], 8⟩),
  (218, ⟨(.pt 5), [(.pt 5)], 8⟩),
  (219, ⟨(.int .i32), [(.int .i32)], 4⟩),
  (220, ⟨(.int .i32), [(.int .i32)], 4⟩),
  (221, ⟨(.st [(0, 12), (1, 12), (2, 202), (3, 215), (4, 5), (5, 5), (6, 216), (7, 217), (8, 218), (9, 219), (10, 220)]), [(.int .u64), (.int .u64), (.int .u32), (.int .u8), (.int .u8), (.int .u8), (.int .u8), .fn, (.pt 5), (.int .i32), (.int .i32)], 48⟩),
  (222, ⟨(.st [(0, 12), (1, 12), (2, 202), (3, 215), (4, 5), (5, 5), (6, 216), (7, 217), (8, 218), (9, 219), (10, 220)]), [(.int .u64), (.int .u64), (.int .u32), (.int .u8), (.int .u8), (.int .u8), (.int .u8), .fn, (.pt 5), (.int .i32), (.int .i32)], 48⟩)]
def eqT0 : List Nat := []
def mpT0 : List (Nat × Nat) := [(91, 4), (92, 3)]
theorem base0 : Base Tryz.checked.prog T0 eqT0 mpT0 := Base.of (by kernel_rfl) (by kernel_rfl) (by kernel_rfl) (by kernel_rfl)
end Go.Ev
namespace Go.Proofs
set_option maxHeartbeats 1000000 in
set_option maxRecDepth 100000 in
theorem stringslite_IndexByte (s : ByteArray) (c : Int) (w : World) :
    Calls Tryz.prog 162 #[.string s, .int .u8 c] w fun e w' => e = .returned (.int .i64 (Lib.indexByte s.data.toList c.toNat.toUInt8)) ∧ w' = w := by
  go_enter Tryz.func162, Tryz.ntmps162
  go_wp2
  rw [run_callFunc_extern Tryz.func173 (by kernel_rfl) (by kernel_rfl) (by kernel_rfl) (e := Extern.BytealgIndexByte.indexByte) (by kernel_rfl), Lib.run_indexByteString]
  simp only [Result.andThen]
  rw [Oper.upon_value]
  go_wp2
  go_ret
  exact ⟨rfl, rfl⟩
end Go.Proofs
namespace Go.Ev
open Go.Proofs
def ibF : List C → Option (List C) := fun xs => some [.i (Lib.indexByte (xs.getD 0 .nil).S.data.toList (xs.getD 1 .nil).I.toNat.toUInt8)]
theorem ib_ok : FSOk Tryz.checked.prog T0 162 ⟨2, ⟨[(0, .d .str), (1, .d (.int .u8))], []⟩, ⟨[(0, .d (.int .i64))], []⟩, [], ibF⟩ := by
  refine ⟨⟨Tryz.f162, _, Tryz.func162, rfl, by kernel_rfl⟩, ?_⟩
  intro W wr F0 θ xs ys args hW hsz hargs hF
  obtain ⟨a0, a1, rfl⟩ : ∃ a0 a1, args = #[a0, a1] := by
    obtain ⟨l⟩ := args
    simp only [List.size_toArray] at hsz
    match l, hsz with
    | [a, b], _ => exact ⟨a, b, rfl⟩
  have r0 : RelV T0 F0 W (fun _ => none) θ (.c .str (xs.getD 0 .nil)) a0 := hargs 0 (by decide)
  have r1 : RelV T0 F0 W (fun _ => none) θ (.c (.int .u8) (xs.getD 1 .nil)) a1 := hargs 1 (by decide)
  simp only [ibF, Option.some.injEq] at hF
  subst hF
  generalize hx0 : xs.getD 0 .nil = x0 at *
  generalize hx1 : xs.getD 1 .nil = x1 at *
  cases r0 with
  | c _ _ _ hc =>
  cases hc with
  | str s =>
  cases r1 with
  | c _ _ _ hc =>
  cases hc with
  | int _ m =>
  refine (stringslite_IndexByte s m W).mono ?_
  rintro e w' ⟨rfl, rfl⟩
  exact ⟨_, F0, θ, rfl, hW, .c _ _ _ (.int _ _), fun n hn => by simp at hn⟩
end Go.Ev
namespace Go.Ev
open Go.Proofs
noncomputable section
def w_szStringS.d1 (a b c : C) : R := (bif (decide (c.I < (a.L.length : Int))) then (bif (decide (0 ≤ c.I)) then (bif (decide (c.I < (a.L.length : Int))) then (bif (decide ((w64 (b.I - ((((a.L.getD c.I.toNat []).getD 0 .nil).S).size : Int))) < 0)) then (some (.ret [.i (-1)])) else (some (.again [a, .i (w64 (b.I - ((((a.L.getD c.I.toNat []).getD 0 .nil).S).size : Int))), .i (w64 (c.I + 1))]))) else none) else none) else (some (.brk 0 [b])))
def w_szStringS.d2 (a : C) : R := (some (.ret [a]))
def w_szStringS.d3 (a b : C) : R := (bif (decide ((w64 (b.I - (a.L.length : Int))) < 0)) then (some (.ret [.i (-1)])) else (bindBlk 0 (lim (ap3 w_szStringS.d1) [a, .i (w64 (b.I - (a.L.length : Int))), .i 0]) (ap1 w_szStringS.d2)))
def w_szStringS : List C → Option (List C) := fun xs => finR (ap2 w_szStringS.d3 xs)
def w_szStringS_fs : FS := ⟨2, ⟨[(0, (zl 9)), (1, zi)], []⟩, ⟨[(0, zi)], []⟩, [], w_szStringS⟩
theorem w_szStringS_ok : FSOk Tryz.checked.prog T0 10 w_szStringS_fs := okOf base0 (fn := Tryz.f10) (c := Tryz.f10.body.getD .skip) w_szStringS_fs (.seq .leaf (.seq .leaf (.seq .leaf (.seq (.seq .leaf (.block ⟨[(1, zi)], []⟩ (.loop ⟨[(0, (zl 9)), (1, zi), (5, zi)], []⟩ .leaf))) .leaf)))) [] .nil (by kernel_rfl) (by kernel_rfl) (by kernel_rfl) (fun xs => by kernel_rfl)
def w_szPilotBerth.d1 (a b c d e f g : C) : R := (bif (decide ((w64 (g.I - (a.S.size : Int))) < 0)) then (some (.ret [.i (-1)])) else (bif (decide ((w64 ((w64 (g.I - (a.S.size : Int))) - (b.S.size : Int))) < 0)) then (some (.ret [.i (-1)])) else (call1 (w_szStringS [c, .i (w64 ((w64 (g.I - (a.S.size : Int))) - (b.S.size : Int)))]) fun h => (bif (decide (h.I < 0)) then (some (.ret [.i (-1)])) else (some (.ret [h]))))))
def w_szPilotBerth : List C → Option (List C) := fun xs => finR (ap7 w_szPilotBerth.d1 xs)
def w_szPilotBerth_fs : FS := ⟨2, ⟨[(0, z6), (1, zi)], []⟩, ⟨[(0, zi)], []⟩, [], w_szPilotBerth⟩
theorem w_szPilotBerth_ok : FSOk Tryz.checked.prog T0 72 w_szPilotBerth_fs := okOf base0 (fn := Tryz.f72) (c := Tryz.f72.body.getD .skip) w_szPilotBerth_fs .leaf [(10, some 22, w_szStringS_fs)] (.cons w_szStringS_ok .nil) (by kernel_rfl) (by kernel_rfl) (by kernel_rfl) (fun xs => by kernel_rfl)
def w_szPilotBerthS.d1 (a b c : C) : R := (bif (decide (c.I < (a.L.length : Int))) then (bif (decide (0 ≤ c.I)) then (bif (decide (c.I < (a.L.length : Int))) then (call1 (w_szPilotBerth [((a.L.getD c.I.toNat []).getD 0 .nil), ((a.L.getD c.I.toNat []).getD 1 .nil), ((a.L.getD c.I.toNat []).getD 2 .nil), ((a.L.getD c.I.toNat []).getD 3 .nil), ((a.L.getD c.I.toNat []).getD 4 .nil), ((a.L.getD c.I.toNat []).getD 5 .nil), b]) fun d => (bif (decide (d.I < 0)) then (some (.ret [.i (-1)])) else (some (.again [a, d, .i (w64 (c.I + 1))])))) else none) else none) else (some (.brk 0 [b])))
def w_szPilotBerthS.d2 (a : C) : R := (some (.ret [a]))
def w_szPilotBerthS.d3 (a b : C) : R := (bif (decide ((w64 (b.I - (a.L.length : Int))) < 0)) then (some (.ret [.i (-1)])) else (bindBlk 0 (lim (ap3 w_szPilotBerthS.d1) [a, .i (w64 (b.I - (a.L.length : Int))), .i 0]) (ap1 w_szPilotBerthS.d2)))
def w_szPilotBerthS : List C → Option (List C) := fun xs => finR (ap2 w_szPilotBerthS.d3 xs)
def w_szPilotBerthS_fs : FS := ⟨2, ⟨[(0, (zl 95)), (1, zi)], []⟩, ⟨[(0, zi)], []⟩, [], w_szPilotBerthS⟩
theorem w_szPilotBerthS_ok : FSOk Tryz.checked.prog T0 35 w_szPilotBerthS_fs := okOf base0 (fn := Tryz.f35) (c := Tryz.f35.body.getD .skip) w_szPilotBerthS_fs (.seq .leaf (.seq .leaf (.seq .leaf (.seq (.seq .leaf (.block ⟨[(1, zi)], []⟩ (.loop ⟨[(0, (zl 95)), (1, zi), (5, zi)], []⟩ .leaf))) .leaf)))) [(72, some 23, w_szPilotBerth_fs)] (.cons w_szPilotBerth_ok .nil) (by kernel_rfl) (by kernel_rfl) (by kernel_rfl) (fun xs => by kernel_rfl)
def w_szPilotService.d1 (a b c : C) : R := (bif (decide ((w64 (c.I - (a.S.size : Int))) < 0)) then (some (.ret [.i (-1)])) else (some (.ret [.i (w64 (c.I - (a.S.size : Int)))])))
def w_szPilotService : List C → Option (List C) := fun xs => finR (ap3 w_szPilotService.d1 xs)
def w_szPilotService_fs : FS := ⟨2, ⟨[(0, (.ag [zt, zi])), (1, zi)], []⟩, ⟨[(0, zi)], []⟩, [], w_szPilotService⟩
theorem w_szPilotService_ok : FSOk Tryz.checked.prog T0 73 w_szPilotService_fs := okOf base0 (fn := Tryz.f73) (c := Tryz.f73.body.getD .skip) w_szPilotService_fs .leaf [] .nil (by kernel_rfl) (by kernel_rfl) (by kernel_rfl) (fun xs => by kernel_rfl)
def w_szPilotServiceS.d1 (a b c : C) : R := (bif (decide (c.I < (a.L.length : Int))) then (bif (decide (0 ≤ c.I)) then (bif (decide (c.I < (a.L.length : Int))) then (call1 (w_szPilotService [((a.L.getD c.I.toNat []).getD 0 .nil), ((a.L.getD c.I.toNat []).getD 1 .nil), b]) fun d => (bif (decide (d.I < 0)) then (some (.ret [.i (-1)])) else (some (.again [a, d, .i (w64 (c.I + 1))])))) else none) else none) else (some (.brk 0 [b])))
def w_szPilotServiceS.d2 (a : C) : R := (some (.ret [a]))
def w_szPilotServiceS.d3 (a b : C) : R := (bif (decide ((w64 (b.I - (a.L.length : Int))) < 0)) then (some (.ret [.i (-1)])) else (bindBlk 0 (lim (ap3 w_szPilotServiceS.d1) [a, .i (w64 (b.I - (a.L.length : Int))), .i 0]) (ap1 w_szPilotServiceS.d2)))
def w_szPilotServiceS : List C → Option (List C) := fun xs => finR (ap2 w_szPilotServiceS.d3 xs)
def w_szPilotServiceS_fs : FS := ⟨2, ⟨[(0, (zl 97)), (1, zi)], []⟩, ⟨[(0, zi)], []⟩, [], w_szPilotServiceS⟩
theorem w_szPilotServiceS_ok : FSOk Tryz.checked.prog T0 36 w_szPilotServiceS_fs := okOf base0 (fn := Tryz.f36) (c := Tryz.f36.body.getD .skip) w_szPilotServiceS_fs (.seq .leaf (.seq .leaf (.seq .leaf (.seq (.seq .leaf (.block ⟨[(1, zi)], []⟩ (.loop ⟨[(0, (zl 97)), (1, zi), (5, zi)], []⟩ .leaf))) .leaf)))) [(73, some 23, w_szPilotService_fs)] (.cons w_szPilotService_ok .nil) (by kernel_rfl) (by kernel_rfl) (by kernel_rfl) (fun xs => by kernel_rfl)
def w_szPilotLike.d1 (a b c : C) : R := (bif (decide ((w64 (c.I - (a.S.size : Int))) < 0)) then (some (.ret [.i (-1)])) else (some (.ret [.i (w64 (c.I - (a.S.size : Int)))])))
def w_szPilotLike : List C → Option (List C) := fun xs => finR (ap3 w_szPilotLike.d1 xs)
def w_szPilotLike_fs : FS := ⟨2, ⟨[(0, (.ag [zt, zi])), (1, zi)], []⟩, ⟨[(0, zi)], []⟩, [], w_szPilotLike⟩
theorem w_szPilotLike_ok : FSOk Tryz.checked.prog T0 122 w_szPilotLike_fs := okOf base0 (fn := Tryz.f122) (c := Tryz.f122.body.getD .skip) w_szPilotLike_fs .leaf [] .nil (by kernel_rfl) (by kernel_rfl) (by kernel_rfl) (fun xs => by kernel_rfl)
def w_szPilotLikeS.d1 (a b c : C) : R := (bif (decide (c.I < (a.L.length : Int))) then (bif (decide (0 ≤ c.I)) then (bif (decide (c.I < (a.L.length : Int))) then (call1 (w_szPilotLike [((a.L.getD c.I.toNat []).getD 0 .nil), ((a.L.getD c.I.toNat []).getD 1 .nil), b]) fun d => (bif (decide (d.I < 0)) then (some (.ret [.i (-1)])) else (some (.again [a, d, .i (w64 (c.I + 1))])))) else none) else none) else (some (.brk 0 [b])))
def w_szPilotLikeS.d2 (a : C) : R := (some (.ret [a]))
def w_szPilotLikeS.d3 (a b : C) : R := (bif (decide ((w64 (b.I - (a.L.length : Int))) < 0)) then (some (.ret [.i (-1)])) else (bindBlk 0 (lim (ap3 w_szPilotLikeS.d1) [a, .i (w64 (b.I - (a.L.length : Int))), .i 0]) (ap1 w_szPilotLikeS.d2)))
def w_szPilotLikeS : List C → Option (List C) := fun xs => finR (ap2 w_szPilotLikeS.d3 xs)
def w_szPilotLikeS_fs : FS := ⟨2, ⟨[(0, (zl 158)), (1, zi)], []⟩, ⟨[(0, zi)], []⟩, [], w_szPilotLikeS⟩
theorem w_szPilotLikeS_ok : FSOk Tryz.checked.prog T0 103 w_szPilotLikeS_fs := okOf base0 (fn := Tryz.f103) (c := Tryz.f103.body.getD .skip) w_szPilotLikeS_fs (.seq .leaf (.seq .leaf (.seq .leaf (.seq (.seq .leaf (.block ⟨[(1, zi)], []⟩ (.loop ⟨[(0, (zl 158)), (1, zi), (5, zi)], []⟩ .leaf))) .leaf)))) [(122, some 23, w_szPilotLike_fs)] (.cons w_szPilotLike_ok .nil) (by kernel_rfl) (by kernel_rfl) (by kernel_rfl) (fun xs => by kernel_rfl)
def w_szPilotCopy.d1 (a b c d e f g h i j k l m : C) : R := (bif (decide ((w64 (m.I - (a.S.size : Int))) < 0)) then (some (.ret [.i (-1)])) else (bif (decide ((w64 ((w64 (m.I - (a.S.size : Int))) - (b.S.size : Int))) < 0)) then (some (.ret [.i (-1)])) else (bif (decide ((w64 ((w64 ((w64 (m.I - (a.S.size : Int))) - (b.S.size : Int))) - (g.S.size : Int))) < 0)) then (some (.ret [.i (-1)])) else (call1 (w_szPilotLikeS [h, .i (w64 ((w64 ((w64 (m.I - (a.S.size : Int))) - (b.S.size : Int))) - (g.S.size : Int)))]) fun n => (bif (decide (n.I < 0)) then (some (.ret [.i (-1)])) else (bif (decide ((w64 (n.I - (j.S.size : Int))) < 0)) then (some (.ret [.i (-1)])) else (bif (decide ((w64 ((w64 (n.I - (j.S.size : Int))) - (k.S.size : Int))) < 0)) then (some (.ret [.i (-1)])) else (bif (decide ((w64 ((w64 ((w64 (n.I - (j.S.size : Int))) - (k.S.size : Int))) - (l.S.size : Int))) < 0)) then (some (.ret [.i (-1)])) else (some (.ret [.i (w64 ((w64 ((w64 (n.I - (j.S.size : Int))) - (k.S.size : Int))) - (l.S.size : Int)))]))))))))))
def w_szPilotCopy : List C → Option (List C) := fun xs => finR (ap13 w_szPilotCopy.d1 xs)
def w_szPilotCopy_fs : FS := ⟨2, ⟨[(0, (.ag [zt, zt, zi, zi, zi, zi, zt, (zl 158), zi, zt, zt, zt])), (1, zi)], []⟩, ⟨[(0, zi)], []⟩, [], w_szPilotCopy⟩
theorem w_szPilotCopy_ok : FSOk Tryz.checked.prog T0 74 w_szPilotCopy_fs := okOf base0 (fn := Tryz.f74) (c := Tryz.f74.body.getD .skip) w_szPilotCopy_fs .leaf [(103, some 29, w_szPilotLikeS_fs)] (.cons w_szPilotLikeS_ok .nil) (by kernel_rfl) (by kernel_rfl) (by kernel_rfl) (fun xs => by kernel_rfl)
def w_szPilotCopyS.d1 (a b c : C) : R := (bif (decide (c.I < (a.L.length : Int))) then (bif (decide (0 ≤ c.I)) then (bif (decide (c.I < (a.L.length : Int))) then (call1 (w_szPilotCopy [((a.L.getD c.I.toNat []).getD 0 .nil), ((a.L.getD c.I.toNat []).getD 1 .nil), ((a.L.getD c.I.toNat []).getD 2 .nil), ((a.L.getD c.I.toNat []).getD 3 .nil), ((a.L.getD c.I.toNat []).getD 4 .nil), ((a.L.getD c.I.toNat []).getD 5 .nil), ((a.L.getD c.I.toNat []).getD 6 .nil), ((a.L.getD c.I.toNat []).getD 7 .nil), ((a.L.getD c.I.toNat []).getD 8 .nil), ((a.L.getD c.I.toNat []).getD 9 .nil), ((a.L.getD c.I.toNat []).getD 10 .nil), ((a.L.getD c.I.toNat []).getD 11 .nil), b]) fun d => (bif (decide (d.I < 0)) then (some (.ret [.i (-1)])) else (some (.again [a, d, .i (w64 (c.I + 1))])))) else none) else none) else (some (.brk 0 [b])))
def w_szPilotCopyS.d2 (a : C) : R := (some (.ret [a]))
def w_szPilotCopyS.d3 (a b : C) : R := (bif (decide ((w64 (b.I - (a.L.length : Int))) < 0)) then (some (.ret [.i (-1)])) else (bindBlk 0 (lim (ap3 w_szPilotCopyS.d1) [a, .i (w64 (b.I - (a.L.length : Int))), .i 0]) (ap1 w_szPilotCopyS.d2)))
def w_szPilotCopyS : List C → Option (List C) := fun xs => finR (ap2 w_szPilotCopyS.d3 xs)
def w_szPilotCopyS_fs : FS := ⟨2, ⟨[(0, (zl 101)), (1, zi)], []⟩, ⟨[(0, zi)], []⟩, [], w_szPilotCopyS⟩
theorem w_szPilotCopyS_ok : FSOk Tryz.checked.prog T0 37 w_szPilotCopyS_fs := okOf base0 (fn := Tryz.f37) (c := Tryz.f37.body.getD .skip) w_szPilotCopyS_fs (.seq .leaf (.seq .leaf (.seq .leaf (.seq (.seq .leaf (.block ⟨[(1, zi)], []⟩ (.loop ⟨[(0, (zl 101)), (1, zi), (5, zi)], []⟩ .leaf))) .leaf)))) [(74, some 23, w_szPilotCopy_fs)] (.cons w_szPilotCopy_ok .nil) (by kernel_rfl) (by kernel_rfl) (by kernel_rfl) (fun xs => by kernel_rfl)
def w_szPilotFleet.d1 (a b c d e : C) : R := (call1 (w_szPilotBerthS [b, e]) fun f => (bif (decide (f.I < 0)) then (some (.ret [.i (-1)])) else (call1 (w_szPilotServiceS [c, f]) fun g => (bif (decide (g.I < 0)) then (some (.ret [.i (-1)])) else (call1 (w_szPilotCopyS [d, g]) fun h => (bif (decide (h.I < 0)) then (some (.ret [.i (-1)])) else (some (.ret [h]))))))))
def w_szPilotFleet : List C → Option (List C) := fun xs => finR (ap5 w_szPilotFleet.d1 xs)
def w_szPilotFleet_fs : FS := ⟨2, ⟨[(0, z7), (1, zi)], []⟩, ⟨[(0, zi)], []⟩, [], w_szPilotFleet⟩
theorem w_szPilotFleet_ok : FSOk Tryz.checked.prog T0 9 w_szPilotFleet_fs := okOf base0 (fn := Tryz.f9) (c := Tryz.f9.body.getD .skip) w_szPilotFleet_fs .leaf [(35, some 8, w_szPilotBerthS_fs), (36, some 14, w_szPilotServiceS_fs), (37, some 20, w_szPilotCopyS_fs)] (.cons w_szPilotBerthS_ok (.cons w_szPilotServiceS_ok (.cons w_szPilotCopyS_ok .nil))) (by kernel_rfl) (by kernel_rfl) (by kernel_rfl) (fun xs => by kernel_rfl)
def w_toStringS.d1 (a b c : C) : R := (bif (decide (b.I < (a.L.length : Int))) then (bif (decide (0 ≤ b.I)) then (bif (decide (b.I < (a.L.length : Int))) then (bif (decide (0 ≤ b.I)) then (bif (decide (b.I < (c.L.length : Int))) then (some (.again [a, .i (w64 (b.I + 1)), .l (c.L.set b.I.toNat (setCs (c.L.getD b.I.toNat []) 0 [((a.L.getD b.I.toNat []).getD 0 .nil)]))])) else none) else none) else none) else none) else (some (.brk 0 [.l c.L])))
def w_toStringS.d2 (a : C) : R := (some (.ret [.l a.L]))
def w_toStringS.d3 (a : C) : R := (bif (decide ((a.L.length : Int) = (a.L.length : Int))) then (bif (decide (0 ≤ (a.L.length : Int))) then (bif (decide ((a.L.length : Int) ≤ 4294967296)) then (bindBlk 0 (lim (ap3 w_toStringS.d1) [a, .i 0, .l (rows (List.replicate (a.L.length : Int).toNat [(.s (bs #[]))]))]) (ap1 w_toStringS.d2)) else none) else none) else none)
def w_toStringS : List C → Option (List C) := fun xs => finR (ap1 w_toStringS.d3 xs)
def w_toStringS_fs : FS := ⟨1, ⟨[(0, (zl 9))], []⟩, ⟨[(0, (.ow 3000))], [(3000, .arr 9)]⟩, [], w_toStringS⟩
theorem w_toStringS_ok : FSOk Tryz.checked.prog T0 13 w_toStringS_fs := okOf base0 (fn := Tryz.f13) (c := Tryz.f13.body.getD .skip) w_toStringS_fs (.seq .leaf (.seq .leaf (.seq (.seq .leaf (.block ⟨[(3, (.ow 7))], [(7, .arr 9)]⟩ (.loop ⟨[(0, (zl 9)), (3, (.ow 7)), (4, zi)], [(7, .arr 9)]⟩ .leaf))) .leaf))) [] .nil (by kernel_rfl) (by kernel_rfl) (by kernel_rfl) (fun xs => by kernel_rfl)
def w_toPilotBerth.d1 (a b c d e f : C) : R := (call1 (w_toStringS [c]) fun g => (some (.ret [a, b, .l g.L, d, e, .b f.B])))
def w_toPilotBerth : List C → Option (List C) := fun xs => finR (ap6 w_toPilotBerth.d1 xs)
def w_toPilotBerth_fs : FS := ⟨1, ⟨[(0, z6)], []⟩, ⟨[(0, z6)], []⟩, [], w_toPilotBerth⟩
theorem w_toPilotBerth_ok : FSOk Tryz.checked.prog T0 75 w_toPilotBerth_fs := okOf base0 (fn := Tryz.f75) (c := Tryz.f75.body.getD .skip) w_toPilotBerth_fs (.seq .leaf (.seq .leaf (.seq .leaf (.seq .leaf (.seq .leaf (.seq .leaf (.seq .leaf (.seq .leaf (.seq .leaf (.frz [56248] .leaf)))))))))) [(13, some 12, w_toStringS_fs)] (.cons w_toStringS_ok .nil) (by kernel_rfl) (by kernel_rfl) (by kernel_rfl) (fun xs => by kernel_rfl)
def w_toPilotBerthS.d1 (a b c : C) : R := (bif (decide (b.I < (a.L.length : Int))) then (bif (decide (0 ≤ b.I)) then (bif (decide (b.I < (a.L.length : Int))) then (call6 (w_toPilotBerth [((a.L.getD b.I.toNat []).getD 0 .nil), ((a.L.getD b.I.toNat []).getD 1 .nil), ((a.L.getD b.I.toNat []).getD 2 .nil), ((a.L.getD b.I.toNat []).getD 3 .nil), ((a.L.getD b.I.toNat []).getD 4 .nil), ((a.L.getD b.I.toNat []).getD 5 .nil)]) fun d e f g h i => (bif (decide (0 ≤ b.I)) then (bif (decide (b.I < (c.L.length : Int))) then (some (.again [a, .i (w64 (b.I + 1)), .l (c.L.set b.I.toNat (setCs (c.L.getD b.I.toNat []) 0 [d, e, f, g, h, i]))])) else none) else none)) else none) else none) else (some (.brk 0 [.l c.L])))
def w_toPilotBerthS.d2 (a : C) : R := (some (.ret [.l a.L]))
def w_toPilotBerthS.d3 (a : C) : R := (bif (decide ((a.L.length : Int) = (a.L.length : Int))) then (bif (decide (0 ≤ (a.L.length : Int))) then (bif (decide ((a.L.length : Int) ≤ 4294967296)) then (bindBlk 0 (lim (ap3 w_toPilotBerthS.d1) [a, .i 0, .l (rows (List.replicate (a.L.length : Int).toNat [(.s (bs #[])), (.s (bs #[])), (.l []), (.i 0), (.i 0), (.b false)]))]) (ap1 w_toPilotBerthS.d2)) else none) else none) else none)
def w_toPilotBerthS : List C → Option (List C) := fun xs => finR (ap1 w_toPilotBerthS.d3 xs)
def w_toPilotBerthS_fs : FS := ⟨1, ⟨[(0, (zl 95))], []⟩, ⟨[(0, (.ow 3000))], [(3000, .arr 54)]⟩, [], w_toPilotBerthS⟩
theorem w_toPilotBerthS_ok : FSOk Tryz.checked.prog T0 39 w_toPilotBerthS_fs := okOf base0 (fn := Tryz.f39) (c := Tryz.f39.body.getD .skip) w_toPilotBerthS_fs (.seq .leaf (.seq .leaf (.seq (.seq .leaf (.block ⟨[(3, (.ow 7))], [(7, .arr 54)]⟩ (.loop ⟨[(0, (zl 95)), (3, (.ow 7)), (4, zi)], [(7, .arr 54)]⟩ .leaf))) .leaf))) [(75, some 20, w_toPilotBerth_fs)] (.cons w_toPilotBerth_ok .nil) (by kernel_rfl) (by kernel_rfl) (by kernel_rfl) (fun xs => by kernel_rfl)
def w_toPilotService.d1 (a b : C) : R := (some (.ret [a, b]))
def w_toPilotService : List C → Option (List C) := fun xs => finR (ap2 w_toPilotService.d1 xs)
def w_toPilotService_fs : FS := ⟨1, ⟨[(0, (.ag [zt, zi]))], []⟩, ⟨[(0, (.ag [zt, zi]))], []⟩, [], w_toPilotService⟩
theorem w_toPilotService_ok : FSOk Tryz.checked.prog T0 76 w_toPilotService_fs := okOf base0 (fn := Tryz.f76) (c := Tryz.f76.body.getD .skip) w_toPilotService_fs .leaf [] .nil (by kernel_rfl) (by kernel_rfl) (by kernel_rfl) (fun xs => by kernel_rfl)
def w_toPilotServiceS.d1 (a b c : C) : R := (bif (decide (b.I < (a.L.length : Int))) then (bif (decide (0 ≤ b.I)) then (bif (decide (b.I < (a.L.length : Int))) then (call2 (w_toPilotService [((a.L.getD b.I.toNat []).getD 0 .nil), ((a.L.getD b.I.toNat []).getD 1 .nil)]) fun d e => (bif (decide (0 ≤ b.I)) then (bif (decide (b.I < (c.L.length : Int))) then (some (.again [a, .i (w64 (b.I + 1)), .l (c.L.set b.I.toNat (setCs (c.L.getD b.I.toNat []) 0 [d, e]))])) else none) else none)) else none) else none) else (some (.brk 0 [.l c.L])))
def w_toPilotServiceS.d2 (a : C) : R := (some (.ret [.l a.L]))
def w_toPilotServiceS.d3 (a : C) : R := (bif (decide ((a.L.length : Int) = (a.L.length : Int))) then (bif (decide (0 ≤ (a.L.length : Int))) then (bif (decide ((a.L.length : Int) ≤ 4294967296)) then (bindBlk 0 (lim (ap3 w_toPilotServiceS.d1) [a, .i 0, .l (rows (List.replicate (a.L.length : Int).toNat [(.s (bs #[])), (.i 0)]))]) (ap1 w_toPilotServiceS.d2)) else none) else none) else none)
def w_toPilotServiceS : List C → Option (List C) := fun xs => finR (ap1 w_toPilotServiceS.d3 xs)
def w_toPilotServiceS_fs : FS := ⟨1, ⟨[(0, (zl 97))], []⟩, ⟨[(0, (.ow 3000))], [(3000, .arr 84)]⟩, [], w_toPilotServiceS⟩
theorem w_toPilotServiceS_ok : FSOk Tryz.checked.prog T0 40 w_toPilotServiceS_fs := okOf base0 (fn := Tryz.f40) (c := Tryz.f40.body.getD .skip) w_toPilotServiceS_fs (.seq .leaf (.seq .leaf (.seq (.seq .leaf (.block ⟨[(3, (.ow 7))], [(7, .arr 84)]⟩ (.loop ⟨[(0, (zl 97)), (3, (.ow 7)), (4, zi)], [(7, .arr 84)]⟩ .leaf))) .leaf))) [(76, some 20, w_toPilotService_fs)] (.cons w_toPilotService_ok .nil) (by kernel_rfl) (by kernel_rfl) (by kernel_rfl) (fun xs => by kernel_rfl)
def w_toPilotLike.d1 (a b : C) : R := (some (.ret [a, b]))
def w_toPilotLike : List C → Option (List C) := fun xs => finR (ap2 w_toPilotLike.d1 xs)
def w_toPilotLike_fs : FS := ⟨1, ⟨[(0, (.ag [zt, zi]))], []⟩, ⟨[(0, (.ag [zt, zi]))], []⟩, [], w_toPilotLike⟩
theorem w_toPilotLike_ok : FSOk Tryz.checked.prog T0 123 w_toPilotLike_fs := okOf base0 (fn := Tryz.f123) (c := Tryz.f123.body.getD .skip) w_toPilotLike_fs .leaf [] .nil (by kernel_rfl) (by kernel_rfl) (by kernel_rfl) (fun xs => by kernel_rfl)
def w_toPilotLikeS.d1 (a b c : C) : R := (bif (decide (b.I < (a.L.length : Int))) then (bif (decide (0 ≤ b.I)) then (bif (decide (b.I < (a.L.length : Int))) then (call2 (w_toPilotLike [((a.L.getD b.I.toNat []).getD 0 .nil), ((a.L.getD b.I.toNat []).getD 1 .nil)]) fun d e => (bif (decide (0 ≤ b.I)) then (bif (decide (b.I < (c.L.length : Int))) then (some (.again [a, .i (w64 (b.I + 1)), .l (c.L.set b.I.toNat (setCs (c.L.getD b.I.toNat []) 0 [d, e]))])) else none) else none)) else none) else none) else (some (.brk 0 [.l c.L])))
def w_toPilotLikeS.d2 (a : C) : R := (some (.ret [.l a.L]))
def w_toPilotLikeS.d3 (a : C) : R := (bif (decide ((a.L.length : Int) = (a.L.length : Int))) then (bif (decide (0 ≤ (a.L.length : Int))) then (bif (decide ((a.L.length : Int) ≤ 4294967296)) then (bindBlk 0 (lim (ap3 w_toPilotLikeS.d1) [a, .i 0, .l (rows (List.replicate (a.L.length : Int).toNat [(.s (bs #[])), (.i 0)]))]) (ap1 w_toPilotLikeS.d2)) else none) else none) else none)
def w_toPilotLikeS : List C → Option (List C) := fun xs => finR (ap1 w_toPilotLikeS.d3 xs)
def w_toPilotLikeS_fs : FS := ⟨1, ⟨[(0, (zl 158))], []⟩, ⟨[(0, (.ow 3000))], [(3000, .arr 111)]⟩, [], w_toPilotLikeS⟩
theorem w_toPilotLikeS_ok : FSOk Tryz.checked.prog T0 104 w_toPilotLikeS_fs := okOf base0 (fn := Tryz.f104) (c := Tryz.f104.body.getD .skip) w_toPilotLikeS_fs (.seq .leaf (.seq .leaf (.seq (.seq .leaf (.block ⟨[(3, (.ow 7))], [(7, .arr 111)]⟩ (.loop ⟨[(0, (zl 158)), (3, (.ow 7)), (4, zi)], [(7, .arr 111)]⟩ .leaf))) .leaf))) [(123, some 20, w_toPilotLike_fs)] (.cons w_toPilotLike_ok .nil) (by kernel_rfl) (by kernel_rfl) (by kernel_rfl) (fun xs => by kernel_rfl)
def w_toPilotCopy.d1 (a b c d e f g h i j k l : C) : R := (call1 (w_toPilotLikeS [h]) fun m => (some (.ret [a, b, c, d, e, f, g, .l m.L, i, j, k, l])))
def w_toPilotCopy : List C → Option (List C) := fun xs => finR (ap12 w_toPilotCopy.d1 xs)
def w_toPilotCopy_fs : FS := ⟨1, ⟨[(0, (.ag [zt, zt, zi, zi, zi, zi, zt, (zl 158), zi, zt, zt, zt]))], []⟩, ⟨[(0, z4)], []⟩, [], w_toPilotCopy⟩
theorem w_toPilotCopy_ok : FSOk Tryz.checked.prog T0 77 w_toPilotCopy_fs := okOf base0 (fn := Tryz.f77) (c := Tryz.f77.body.getD .skip) w_toPilotCopy_fs (.seq .leaf (.seq .leaf (.seq .leaf (.seq .leaf (.seq .leaf (.seq .leaf (.seq .leaf (.seq .leaf (.seq .leaf (.seq .leaf (.seq .leaf (.seq .leaf (.seq .leaf (.seq .leaf (.seq .leaf (.frz [117688] .leaf)))))))))))))))) [(104, some 27, w_toPilotLikeS_fs)] (.cons w_toPilotLikeS_ok .nil) (by kernel_rfl) (by kernel_rfl) (by kernel_rfl) (fun xs => by kernel_rfl)
def w_toPilotCopyS.d1 (a b c : C) : R := (bif (decide (b.I < (a.L.length : Int))) then (bif (decide (0 ≤ b.I)) then (bif (decide (b.I < (a.L.length : Int))) then (call12 (w_toPilotCopy [((a.L.getD b.I.toNat []).getD 0 .nil), ((a.L.getD b.I.toNat []).getD 1 .nil), ((a.L.getD b.I.toNat []).getD 2 .nil), ((a.L.getD b.I.toNat []).getD 3 .nil), ((a.L.getD b.I.toNat []).getD 4 .nil), ((a.L.getD b.I.toNat []).getD 5 .nil), ((a.L.getD b.I.toNat []).getD 6 .nil), ((a.L.getD b.I.toNat []).getD 7 .nil), ((a.L.getD b.I.toNat []).getD 8 .nil), ((a.L.getD b.I.toNat []).getD 9 .nil), ((a.L.getD b.I.toNat []).getD 10 .nil), ((a.L.getD b.I.toNat []).getD 11 .nil)]) fun d e f g h i j k l m n o => (bif (decide (0 ≤ b.I)) then (bif (decide (b.I < (c.L.length : Int))) then (some (.again [a, .i (w64 (b.I + 1)), .l (c.L.set b.I.toNat (setCs (c.L.getD b.I.toNat []) 0 [d, e, f, g, h, i, j, k, l, m, n, o]))])) else none) else none)) else none) else none) else (some (.brk 0 [.l c.L])))
def w_toPilotCopyS.d2 (a : C) : R := (some (.ret [.l a.L]))
def w_toPilotCopyS.d3 (a : C) : R := (bif (decide ((a.L.length : Int) = (a.L.length : Int))) then (bif (decide (0 ≤ (a.L.length : Int))) then (bif (decide ((a.L.length : Int) ≤ 4294967296)) then (bindBlk 0 (lim (ap3 w_toPilotCopyS.d1) [a, .i 0, .l (rows (List.replicate (a.L.length : Int).toNat [(.s (bs #[])), (.s (bs #[])), (.i 0), (.i 0), (.i 0), (.i 0), (.s (bs #[])), (.l []), (.i 0), (.s (bs #[])), (.s (bs #[])), (.s (bs #[]))]))]) (ap1 w_toPilotCopyS.d2)) else none) else none) else none)
def w_toPilotCopyS : List C → Option (List C) := fun xs => finR (ap1 w_toPilotCopyS.d3 xs)
def w_toPilotCopyS_fs : FS := ⟨1, ⟨[(0, (zl 101))], []⟩, ⟨[(0, (.ow 3000))], [(3000, .arr 63)]⟩, [], w_toPilotCopyS⟩
theorem w_toPilotCopyS_ok : FSOk Tryz.checked.prog T0 41 w_toPilotCopyS_fs := okOf base0 (fn := Tryz.f41) (c := Tryz.f41.body.getD .skip) w_toPilotCopyS_fs (.seq .leaf (.seq .leaf (.seq (.seq .leaf (.block ⟨[(3, (.ow 7))], [(7, .arr 63)]⟩ (.loop ⟨[(0, (zl 101)), (3, (.ow 7)), (4, zi)], [(7, .arr 63)]⟩ .leaf))) .leaf))) [(77, some 20, w_toPilotCopy_fs)] (.cons w_toPilotCopy_ok .nil) (by kernel_rfl) (by kernel_rfl) (by kernel_rfl) (fun xs => by kernel_rfl)
def w_toPilotFleet.d1 (a b c d : C) : R := (call1 (w_toPilotBerthS [b]) fun e => (call1 (w_toPilotServiceS [c]) fun f => (call1 (w_toPilotCopyS [d]) fun g => (some (.ret [.b a.B, .l e.L, .l f.L, .l g.L])))))
def w_toPilotFleet : List C → Option (List C) := fun xs => finR (ap4 w_toPilotFleet.d1 xs)
def w_toPilotFleet_fs : FS := ⟨1, ⟨[(0, z7)], []⟩, ⟨[(0, (.ag [zo, (.ow 3000), (.ow 3001), (.ow 3002)]))], [(3000, .arr 54), (3001, .arr 84), (3002, .arr 63)]⟩, [], w_toPilotFleet⟩
theorem w_toPilotFleet_ok : FSOk Tryz.checked.prog T0 12 w_toPilotFleet_fs := okOf base0 (fn := Tryz.f12) (c := Tryz.f12.body.getD .skip) w_toPilotFleet_fs .leaf [(39, some 9, w_toPilotBerthS_fs), (40, some 13, w_toPilotServiceS_fs), (41, some 17, w_toPilotCopyS_fs)] (.cons w_toPilotBerthS_ok (.cons w_toPilotServiceS_ok (.cons w_toPilotCopyS_ok .nil))) (by kernel_rfl) (by kernel_rfl) (by kernel_rfl) (fun xs => by kernel_rfl)
def s_l1In.d1 (a b c : C) : R := (bif (decide (a.I ≥ b.I)) then (some (.ret [.b (decide (a.I ≤ c.I))])) else (some (.ret [.b false])))
def s_l1In : List C → Option (List C) := fun xs => finR (ap3 s_l1In.d1 xs)
def s_l1In_fs : FS := ⟨3, ⟨[(0, zi), (1, zi), (2, zi)], []⟩, ⟨[(0, zo)], []⟩, [], s_l1In⟩
theorem s_l1In_ok : FSOk Tryz.checked.prog T0 59 s_l1In_fs := okOf base0 (fn := Tryz.f59) (c := Tryz.f59.body.getD .skip) s_l1In_fs .leaf [] .nil (by kernel_rfl) (by kernel_rfl) (by kernel_rfl) (fun xs => by kernel_rfl)
def s_l1Letter.d1 (a : C) : R := (bif (decide (a.I ≥ 97)) then (bif (!(decide (a.I ≤ 122))) then (bif (decide (a.I ≥ 48)) then (bif (!(decide (a.I ≤ 57))) then (bif (!(a.I == 45)) then (some (.ret [.b (a.I == 95)])) else (some (.ret [.b true]))) else (some (.ret [.b true]))) else (bif (!(a.I == 45)) then (some (.ret [.b (a.I == 95)])) else (some (.ret [.b true])))) else (some (.ret [.b true]))) else (bif (decide (a.I ≥ 48)) then (bif (!(decide (a.I ≤ 57))) then (bif (!(a.I == 45)) then (some (.ret [.b (a.I == 95)])) else (some (.ret [.b true]))) else (some (.ret [.b true]))) else (bif (!(a.I == 45)) then (some (.ret [.b (a.I == 95)])) else (some (.ret [.b true])))))
def s_l1Letter : List C → Option (List C) := fun xs => finR (ap1 s_l1Letter.d1 xs)
def s_l1Letter_fs : FS := ⟨1, ⟨[(0, (.d (.int .u8)))], []⟩, ⟨[(0, zo)], []⟩, [], s_l1Letter⟩
theorem s_l1Letter_ok : FSOk Tryz.checked.prog T0 96 s_l1Letter_fs := okOf base0 (fn := Tryz.f96) (c := Tryz.f96.body.getD .skip) s_l1Letter_fs .leaf [] .nil (by kernel_rfl) (by kernel_rfl) (by kernel_rfl) (fun xs => by kernel_rfl)
def s_l1NameOk.d1 (a b : C) : R := (bif (decide (b.I < (a.S.size : Int))) then (bif (decide (0 ≤ b.I)) then (bif (decide (b.I < (a.S.size : Int))) then (call1 (s_l1Letter [.i ((a.S.data.getD b.I.toNat 0).toNat : Int)]) fun c => (bif (!c.B) then (some (.ret [.b false])) else (some (.again [a, .i (w64 (b.I + 1))])))) else none) else none) else (some (.brk 0 [])))
def s_l1NameOk.d2 : R := (some (.ret [.b true]))
def s_l1NameOk.d3 (a : C) : R := (call1 (s_l1In [.i (a.S.size : Int), .i 1, .i 20]) fun b => (bif (!b.B) then (some (.ret [.b false])) else (bindBlk 0 (lim (ap2 s_l1NameOk.d1) [a, .i 0]) (fun xs => s_l1NameOk.d2))))
def s_l1NameOk : List C → Option (List C) := fun xs => finR (ap1 s_l1NameOk.d3 xs)
def s_l1NameOk_fs : FS := ⟨1, ⟨[(0, zt)], []⟩, ⟨[(0, zo)], []⟩, [], s_l1NameOk⟩
theorem s_l1NameOk_ok : FSOk Tryz.checked.prog T0 58 s_l1NameOk_fs := okOf base0 (fn := Tryz.f58) (c := Tryz.f58.body.getD .skip) s_l1NameOk_fs (.seq .leaf (.seq .leaf (.seq (.seq .leaf (.block ⟨[], []⟩ (.loop ⟨[(0, zt), (3, zi)], []⟩ .leaf))) .leaf))) [(59, some 6, s_l1In_fs), (96, some 17, s_l1Letter_fs)] (.cons s_l1In_ok (.cons s_l1Letter_ok .nil)) (by kernel_rfl) (by kernel_rfl) (by kernel_rfl) (fun xs => by kernel_rfl)
def s_l1Tokens.d1 (a b c d : C) : R := (bif (decide (c.I < (a.S.size : Int))) then (bif (decide (0 ≤ c.I)) then (bif (decide (c.I < (a.S.size : Int))) then (call1 (s_l1Letter [.i ((a.S.data.getD c.I.toNat 0).toNat : Int)]) fun e => (bif e.B then (some (.again [a, b, .i (w64 (c.I + 1)), .l d.L])) else (some (.brk 2 [a, b, c, .l d.L])))) else none) else none) else (some (.brk 2 [a, b, c, .l d.L])))
def s_l1Tokens.d2 (a b c d e : C) : R := (bif d.B then (some (.ret [.b false, .l e.L])) else (bif (decide (0 ≤ b.I)) then (bif (decide (b.I ≤ (w64 (c.I + 1)))) then (bif (decide ((w64 (c.I + 1)) ≤ (a.S.size : Int))) then (bif (decide (e.L.length + (rows [[.s (a.S.extract b.I.toNat (w64 (c.I + 1)).toNat)]]).length ≤ 4294967296)) then (some (.brk 1 [a, .i (w64 (c.I + 1)), .l (e.L ++ (rows [[.s (a.S.extract b.I.toNat (w64 (c.I + 1)).toNat)]]))])) else none) else none) else none) else none))
def s_l1Tokens.d3 (a b c d : C) : R := (bif (c.I == b.I) then (bindNrm (bif (decide (0 ≤ b.I)) then (bif (decide (b.I < (a.S.size : Int))) then (bif (((a.S.data.getD b.I.toNat 0).toNat : Int) != 124) then (bif (decide (0 ≤ b.I)) then (bif (decide (b.I < (a.S.size : Int))) then (bif (((a.S.data.getD b.I.toNat 0).toNat : Int) != 38) then (bif (decide (0 ≤ b.I)) then (bif (decide (b.I < (a.S.size : Int))) then (bif (((a.S.data.getD b.I.toNat 0).toNat : Int) != 33) then (bif (decide (0 ≤ b.I)) then (bif (decide (b.I < (a.S.size : Int))) then (bif (((a.S.data.getD b.I.toNat 0).toNat : Int) != 40) then (bif (decide (0 ≤ b.I)) then (bif (decide (b.I < (a.S.size : Int))) then (bif (((a.S.data.getD b.I.toNat 0).toNat : Int) != 41) then (bif (decide (0 ≤ b.I)) then (bif (decide (b.I < (a.S.size : Int))) then (some (.nrm [a, b, c, .b (((a.S.data.getD b.I.toNat 0).toNat : Int) != 61), .l d.L])) else none) else none) else (some (.nrm [a, b, c, .b false, .l d.L]))) else none) else none) else (some (.nrm [a, b, c, .b false, .l d.L]))) else none) else none) else (some (.nrm [a, b, c, .b false, .l d.L]))) else none) else none) else (some (.nrm [a, b, c, .b false, .l d.L]))) else none) else none) else (some (.nrm [a, b, c, .b false, .l d.L]))) else none) else none) (ap5 s_l1Tokens.d2)) else (bif (decide (0 ≤ b.I)) then (bif (decide (b.I ≤ c.I)) then (bif (decide (c.I ≤ (a.S.size : Int))) then (bif (decide (d.L.length + (rows [[.s (a.S.extract b.I.toNat c.I.toNat)]]).length ≤ 4294967296)) then (some (.brk 1 [a, c, .l (d.L ++ (rows [[.s (a.S.extract b.I.toNat c.I.toNat)]]))])) else none) else none) else none) else none))
def s_l1Tokens.d4 (a b c : C) : R := (some (.again [a, b, .l c.L]))
def s_l1Tokens.d5 (a b c : C) : R := (bif (decide (b.I < (a.S.size : Int))) then (bindBlk 1 (bif (decide (0 ≤ b.I)) then (bif (decide (b.I < (a.S.size : Int))) then (bif (((a.S.data.getD b.I.toNat 0).toNat : Int) == 32) then (some (.brk 1 [a, .i (w64 (b.I + 1)), .l c.L])) else (bindBlk 2 (lim (ap4 s_l1Tokens.d1) [a, b, b, .l c.L]) (ap4 s_l1Tokens.d3))) else none) else none) (ap3 s_l1Tokens.d4)) else (some (.brk 0 [.l c.L])))
def s_l1Tokens.d6 (a : C) : R := (some (.ret [.b true, .l a.L]))
def s_l1Tokens.d7 (a : C) : R := (bindBlk 0 (lim (ap3 s_l1Tokens.d5) [a, .i 0, .l nils]) (ap1 s_l1Tokens.d6))
def s_l1Tokens : List C → Option (List C) := fun xs => finR (ap1 s_l1Tokens.d7 xs)
def s_l1Tokens_fs : FS := ⟨1, ⟨[(0, zt)], []⟩, ⟨[(0, (.tu [(.ow 3000), zo]))], [(3000, .arr 9)]⟩, [], s_l1Tokens⟩
theorem s_l1Tokens_ok : FSOk Tryz.checked.prog T0 125 s_l1Tokens_fs := okOf base0 (fn := Tryz.f125) (c := Tryz.f125.body.getD .skip) s_l1Tokens_fs (.seq .leaf (.seq .leaf (.seq (.seq .leaf (.block ⟨[(4, (.ow 7))], [(7, .arr 9)]⟩ (.loop ⟨[(0, zt), (4, (.ow 7)), (5, zi)], [(7, .arr 9)]⟩ (.seq .leaf (.block ⟨[(0, zt), (4, (.ow 7)), (5, zi)], [(7, .arr 9)]⟩ (.seq .leaf (.seq .leaf (.seq (.block ⟨[(0, zt), (4, (.ow 7)), (5, zi), (6, zi)], [(7, .arr 9)]⟩ (.loop ⟨[(0, zt), (4, (.ow 7)), (5, zi), (6, zi)], [(7, .arr 9)]⟩ .leaf)) (.seq (.seq .leaf (.cond (.seq (.seq (.join ⟨[(0, zt), (4, (.ow 7)), (5, zi), (6, zi), (67, zo)], [(7, .arr 9)]⟩ .leaf) .leaf) .leaf) .leaf)) .leaf))))))))) .leaf))) [(96, some 27, s_l1Letter_fs)] (.cons s_l1Letter_ok .nil) (by kernel_rfl) (by kernel_rfl) (by kernel_rfl) (fun xs => by kernel_rfl)
def s_l1Parser_is.d1 (a b : C) : R := (bif a.isP then (bif a.isP then (bif (decide ((a.P.getD 1 .nil).I < (((a.P.getD 0 .nil).L).length : Int))) then (bif a.isP then (bif a.isP then (bif (decide (0 ≤ (a.P.getD 1 .nil).I)) then (bif (decide ((a.P.getD 1 .nil).I < (((a.P.getD 0 .nil).L).length : Int))) then (some (.ret [.b ((((((a.P.getD 0 .nil).L).getD ((a.P.getD 1 .nil).I).toNat []).getD 0 .nil).S).toList == b.S.toList)])) else none) else none) else none) else none) else (some (.ret [.b false]))) else none) else none)
def s_l1Parser_is : List C → Option (List C) := fun xs => finR (ap2 s_l1Parser_is.d1 xs)
def s_l1Parser_is_fs : FS := ⟨2, ⟨[(0, (.d (.pt 167))), (1, zt)], []⟩, ⟨[(0, zo)], []⟩, [], s_l1Parser_is⟩
theorem s_l1Parser_is_ok : FSOk Tryz.checked.prog T0 159 s_l1Parser_is_fs := okOf base0 (fn := Tryz.f159) (c := Tryz.f159.body.getD .skip) s_l1Parser_is_fs .leaf [] .nil (by kernel_rfl) (by kernel_rfl) (by kernel_rfl) (fun xs => by kernel_rfl)
def s_l1Parser_take.d1 (a b c d : C) : R := (call1 (s_l1Parser_is [.p [b, c, d], a]) fun e => (bif e.B then (some (.ret [.b true, b, .i (w64 (c.I + 1)), d])) else (some (.ret [.b false, b, c, d]))))
def s_l1Parser_take : List C → Option (List C) := fun xs => finR (ap4 s_l1Parser_take.d1 xs)
def s_l1Parser_take_fs : FS := ⟨2, ⟨[(0, (.pt 2000 0)), (1, zt)], [(2000, .var 167 [(zl 9), zi, zo])]⟩, ⟨[(0, zo)], [(2000, .var 167 [(zl 9), zi, zo])]⟩, [2000], s_l1Parser_take⟩
theorem s_l1Parser_take_ok : FSOk Tryz.checked.prog T0 146 s_l1Parser_take_fs := okOf base0 (fn := Tryz.f146) (c := Tryz.f146.body.getD .skip) s_l1Parser_take_fs .leaf [(159, some 7, s_l1Parser_is_fs)] (.cons s_l1Parser_is_ok .nil) (by kernel_rfl) (by kernel_rfl) (by kernel_rfl) (fun xs => by kernel_rfl)
def s_l1Over.d1 (a b c d e : C) : R := (bif (decide (c.I < (d.L.length : Int))) then (bif (decide (0 ≤ c.I)) then (bif (decide (c.I < (d.L.length : Int))) then (bif (decide (e.L.length + (((d.L.getD c.I.toNat []).getD 0 .nil).L).length ≤ 4294967296)) then (some (.again [a, b, .i (w64 (c.I + 1)), .l d.L, .l (e.L ++ (((d.L.getD c.I.toNat []).getD 0 .nil).L))])) else none) else none) else none) else (some (.brk 0 [a, b, .l d.L, .l e.L])))
def s_l1Over.d2 (a b c d : C) : R := (bif (decide (d.L.length + (rows [[a, .s (bs #[]), .s (bs #[]), b]]).length ≤ 4294967296)) then (some (.ret [.l c.L, .l (d.L ++ (rows [[a, .s (bs #[]), .s (bs #[]), b]]))])) else none)
def s_l1Over.d3 (a b c : C) : R := (bindBlk 0 (lim (ap5 s_l1Over.d1) [a, b, .i 0, .l c.L, .l nils]) (ap4 s_l1Over.d2))
def s_l1Over : List C → Option (List C) := fun xs => finR (ap3 s_l1Over.d3 xs)
def s_l1Over_fs : FS := ⟨3, ⟨[(0, zi), (1, zi), (2, (.ow 2000))], [(2000, .arr 129)]⟩, ⟨[(0, (.ow 3001))], [(2000, .arr 129), (3001, .arr 164)]⟩, [2000], s_l1Over⟩
theorem s_l1Over_ok : FSOk Tryz.checked.prog T0 147 s_l1Over_fs := okOf base0 (fn := Tryz.f147) (c := Tryz.f147.body.getD .skip) s_l1Over_fs (.seq .leaf (.seq .leaf (.seq (.seq .leaf (.block ⟨[(0, zi), (1, zi), (7, (.ow 9))], [(2000, .arr 129), (9, .arr 164)]⟩ (.loop ⟨[(0, zi), (1, zi), (2, (.ow 2000)), (7, (.ow 9)), (8, zi)], [(2000, .arr 129), (9, .arr 164)]⟩ .leaf))) .leaf))) [] .nil (by kernel_rfl) (by kernel_rfl) (by kernel_rfl) (fun xs => by kernel_rfl)
def s_l1Parser_name.d1 (a b c : C) : R := (bif (!(decide (b.I ≥ (a.L.length : Int)))) then (bif (decide (0 ≤ b.I)) then (bif (decide (b.I < (a.L.length : Int))) then (call1 (s_l1NameOk [((a.L.getD b.I.toNat []).getD 0 .nil)]) fun d => (bif (!d.B) then (some (.ret [.s (bs #[]), a, b, .b true])) else (bif (decide (0 ≤ (w64 ((w64 (b.I + 1)) - 1)))) then (bif (decide ((w64 ((w64 (b.I + 1)) - 1)) < (a.L.length : Int))) then (some (.ret [((a.L.getD (w64 ((w64 (b.I + 1)) - 1)).toNat []).getD 0 .nil), a, .i (w64 (b.I + 1)), c])) else none) else none))) else none) else none) else (some (.ret [.s (bs #[]), a, b, .b true])))
def s_l1Parser_name : List C → Option (List C) := fun xs => finR (ap3 s_l1Parser_name.d1 xs)
def s_l1Parser_name_fs : FS := ⟨1, ⟨[(0, (.pt 2000 0))], [(2000, .var 167 [(zl 9), zi, zo])]⟩, ⟨[(0, zt)], [(2000, .var 167 [(zl 9), zi, zo])]⟩, [2000], s_l1Parser_name⟩
theorem s_l1Parser_name_ok : FSOk Tryz.checked.prog T0 170 s_l1Parser_name_fs := okOf base0 (fn := Tryz.f170) (c := Tryz.f170.body.getD .skip) s_l1Parser_name_fs .leaf [(58, some 24, s_l1NameOk_fs)] (.cons s_l1NameOk_ok .nil) (by kernel_rfl) (by kernel_rfl) (by kernel_rfl) (fun xs => by kernel_rfl)
def s_l1Parser_or.d1 (G0 G1 G2 : List C → Option (List C)) (a b c d : C) : R := (bif (!d.B) then (call4 (s_l1Parser_take [.s (bs #[124]), b, c, d]) fun e f g h => (bif e.B then (call4 (G1 [f, g, h]) fun i j k l => (call2 (s_l1Over [.i 5, .i 2, .l (rows [[a], [i]])]) fun m n => (some (.again [.l n.L, j, k, l])))) else (some (.brk 0 [a, f, g, h])))) else (some (.brk 0 [a, b, c, d])))
def s_l1Parser_or.d2 (G0 G1 G2 : List C → Option (List C)) (a b c d : C) : R := (some (.ret [a, b, c, d]))
def s_l1Parser_or.d3 (G0 G1 G2 : List C → Option (List C)) (a b c : C) : R := (call4 (G1 [a, b, c]) fun d e f g => (bindBlk 0 (lim (ap4 (s_l1Parser_or.d1 G0 G1 G2)) [d, e, f, g]) (ap4 (s_l1Parser_or.d2 G0 G1 G2))))
def s_l1Parser_or.step (G0 G1 G2 : List C → Option (List C)) : List C → Option (List C) := fun xs => finR (ap3 (s_l1Parser_or.d3 G0 G1 G2) xs)
def s_l1Parser_or_fs (G : List C → Option (List C)) : FS := ⟨1, ⟨[(0, (.pt 2000 0))], [(2000, .var 167 [(.d (.sl 9)), (.d (.int .i64)), (.d .bool)])]⟩, ⟨[(0, (.d (.sl 164)))], [(2000, .var 167 [(.d (.sl 9)), (.d (.int .i64)), (.d .bool)])]⟩, [2000], G⟩
def s_l1Parser_and.d1 (G0 G1 G2 : List C → Option (List C)) (a b c d : C) : R := (bif (!d.B) then (call4 (s_l1Parser_take [.s (bs #[38]), b, c, d]) fun e f g h => (bif e.B then (call4 (G2 [f, g, h]) fun i j k l => (call2 (s_l1Over [.i 4, .i 2, .l (rows [[a], [i]])]) fun m n => (some (.again [.l n.L, j, k, l])))) else (some (.brk 0 [a, f, g, h])))) else (some (.brk 0 [a, b, c, d])))
def s_l1Parser_and.d2 (G0 G1 G2 : List C → Option (List C)) (a b c d : C) : R := (some (.ret [a, b, c, d]))
def s_l1Parser_and.d3 (G0 G1 G2 : List C → Option (List C)) (a b c : C) : R := (call4 (G2 [a, b, c]) fun d e f g => (bindBlk 0 (lim (ap4 (s_l1Parser_and.d1 G0 G1 G2)) [d, e, f, g]) (ap4 (s_l1Parser_and.d2 G0 G1 G2))))
def s_l1Parser_and.step (G0 G1 G2 : List C → Option (List C)) : List C → Option (List C) := fun xs => finR (ap3 (s_l1Parser_and.d3 G0 G1 G2) xs)
def s_l1Parser_and_fs (G : List C → Option (List C)) : FS := ⟨1, ⟨[(0, (.pt 2000 0))], [(2000, .var 167 [(.d (.sl 9)), (.d (.int .i64)), (.d .bool)])]⟩, ⟨[(0, (.d (.sl 164)))], [(2000, .var 167 [(.d (.sl 9)), (.d (.int .i64)), (.d .bool)])]⟩, [2000], G⟩
def s_l1Parser_not.d1 (G0 G1 G2 : List C → Option (List C)) (a b c : C) : R := (bif c.B then (some (.ret [.l nils, a, b, c])) else (call4 (s_l1Parser_take [.s (bs #[33]), a, b, c]) fun d e f g => (bif d.B then (call4 (G2 [e, f, g]) fun h i j k => (call2 (s_l1Over [.i 3, .i 1, .l (rows [[h]])]) fun l m => (some (.ret [.l m.L, i, j, k])))) else (call4 (s_l1Parser_take [.s (bs #[40]), e, f, g]) fun n o p q => (bif n.B then (call4 (G0 [o, p, q]) fun r s t u => (call4 (s_l1Parser_take [.s (bs #[41]), s, t, u]) fun v w x y => (bif (!v.B) then (some (.ret [r, w, x, .b true])) else (some (.ret [r, w, x, y]))))) else (call4 (s_l1Parser_name [o, p, q]) fun z a0 a1 a2 => (bif (!a2.B) then (call4 (s_l1Parser_take [.s (bs #[61]), a0, a1, a2]) fun a3 a4 a5 a6 => (bif a3.B then (call4 (s_l1Parser_name [a4, a5, a6]) fun a7 a8 a9 b0 => (some (.ret [.l (rows [[.i 2, z, a7, .i 0]]), a8, a9, b0]))) else (some (.ret [.l (rows [[.i 1, z, .s (bs #[]), .i 0]]), a4, a5, a6])))) else (some (.ret [.l (rows [[.i 1, z, .s (bs #[]), .i 0]]), a0, a1, a2])))))))))
def s_l1Parser_not.step (G0 G1 G2 : List C → Option (List C)) : List C → Option (List C) := fun xs => finR (ap3 (s_l1Parser_not.d1 G0 G1 G2) xs)
def s_l1Parser_not_fs (G : List C → Option (List C)) : FS := ⟨1, ⟨[(0, (.pt 2000 0))], [(2000, .var 167 [(.d (.sl 9)), (.d (.int .i64)), (.d .bool)])]⟩, ⟨[(0, (.d (.sl 164)))], [(2000, .var 167 [(.d (.sl 9)), (.d (.int .i64)), (.d .bool)])]⟩, [2000], G⟩
theorem s_l1Parser_or_st {G0 G1 G2 : List C → Option (List C)} (h0 : FSOk Tryz.checked.prog T0 126 (s_l1Parser_or_fs G0)) (h1 : FSOk Tryz.checked.prog T0 145 (s_l1Parser_and_fs G1)) (h2 : FSOk Tryz.checked.prog T0 158 (s_l1Parser_not_fs G2)) : FSOk Tryz.checked.prog T0 126 (s_l1Parser_or_fs (s_l1Parser_or.step G0 G1 G2)) := okOf base0 (fn := Tryz.f126) (c := Tryz.f126.body.getD .skip) (s_l1Parser_or_fs (s_l1Parser_or.step G0 G1 G2)) (.seq .leaf (.seq .leaf (.seq (.block ⟨[(3, (.d (.sl 164)))], [(2000, .var 167 [(.d (.sl 9)), (.d (.int .i64)), (.d .bool)])]⟩ (.loop ⟨[(0, (.pt 2000 0)), (3, (.d (.sl 164)))], [(2000, .var 167 [(.d (.sl 9)), (.d (.int .i64)), (.d .bool)])]⟩ .leaf)) .leaf))) [(145, some 5, (s_l1Parser_and_fs G1)), (145, some 17, (s_l1Parser_and_fs G1)), (146, some 13, s_l1Parser_take_fs), (147, some 19, s_l1Over_fs)] (.cons h1 (.cons h1 (.cons s_l1Parser_take_ok (.cons s_l1Over_ok .nil)))) (by kernel_rfl) (by kernel_rfl) (by kernel_rfl) (fun xs => by kernel_rfl)
theorem s_l1Parser_and_st {G0 G1 G2 : List C → Option (List C)} (h0 : FSOk Tryz.checked.prog T0 126 (s_l1Parser_or_fs G0)) (h1 : FSOk Tryz.checked.prog T0 145 (s_l1Parser_and_fs G1)) (h2 : FSOk Tryz.checked.prog T0 158 (s_l1Parser_not_fs G2)) : FSOk Tryz.checked.prog T0 145 (s_l1Parser_and_fs (s_l1Parser_and.step G0 G1 G2)) := okOf base0 (fn := Tryz.f145) (c := Tryz.f145.body.getD .skip) (s_l1Parser_and_fs (s_l1Parser_and.step G0 G1 G2)) (.seq .leaf (.seq .leaf (.seq (.block ⟨[(3, (.d (.sl 164)))], [(2000, .var 167 [(.d (.sl 9)), (.d (.int .i64)), (.d .bool)])]⟩ (.loop ⟨[(0, (.pt 2000 0)), (3, (.d (.sl 164)))], [(2000, .var 167 [(.d (.sl 9)), (.d (.int .i64)), (.d .bool)])]⟩ .leaf)) .leaf))) [(146, some 13, s_l1Parser_take_fs), (147, some 19, s_l1Over_fs), (158, some 5, (s_l1Parser_not_fs G2)), (158, some 17, (s_l1Parser_not_fs G2))] (.cons s_l1Parser_take_ok (.cons s_l1Over_ok (.cons h2 (.cons h2 .nil)))) (by kernel_rfl) (by kernel_rfl) (by kernel_rfl) (fun xs => by kernel_rfl)
theorem s_l1Parser_not_st {G0 G1 G2 : List C → Option (List C)} (h0 : FSOk Tryz.checked.prog T0 126 (s_l1Parser_or_fs G0)) (h1 : FSOk Tryz.checked.prog T0 145 (s_l1Parser_and_fs G1)) (h2 : FSOk Tryz.checked.prog T0 158 (s_l1Parser_not_fs G2)) : FSOk Tryz.checked.prog T0 158 (s_l1Parser_not_fs (s_l1Parser_not.step G0 G1 G2)) := okOf base0 (fn := Tryz.f158) (c := Tryz.f158.body.getD .skip) (s_l1Parser_not_fs (s_l1Parser_not.step G0 G1 G2)) (.seq .leaf (.seq (.seq .leaf (.cond (.seq .leaf (.frz [9] .leaf)) .leaf)) (.seq (.seq .leaf (.cond (.seq .leaf (.frz [68537] .leaf)) .leaf)) (.seq .leaf (.seq .leaf (.seq .leaf (.seq .leaf (.frz [44] .leaf)))))))) [(126, some 19, (s_l1Parser_or_fs G0)), (146, some 11, s_l1Parser_take_fs), (146, some 17, s_l1Parser_take_fs), (146, some 21, s_l1Parser_take_fs), (146, some 37, s_l1Parser_take_fs), (147, some 15, s_l1Over_fs), (158, some 13, (s_l1Parser_not_fs G2)), (170, some 28, s_l1Parser_name_fs), (170, some 41, s_l1Parser_name_fs)] (.cons h0 (.cons s_l1Parser_take_ok (.cons s_l1Parser_take_ok (.cons s_l1Parser_take_ok (.cons s_l1Parser_take_ok (.cons s_l1Over_ok (.cons h2 (.cons s_l1Parser_name_ok (.cons s_l1Parser_name_ok .nil))))))))) (by kernel_rfl) (by kernel_rfl) (by kernel_rfl) (fun xs => by kernel_rfl)
def s_l1Parser_or.g : Nat → Nat → List C → Option (List C)
  | 0, _ => fun _ => none
  | k + 1, 0 => s_l1Parser_or.step (s_l1Parser_or.g k 0) (s_l1Parser_or.g k 1) (s_l1Parser_or.g k 2)
  | k + 1, 1 => s_l1Parser_and.step (s_l1Parser_or.g k 0) (s_l1Parser_or.g k 1) (s_l1Parser_or.g k 2)
  | k + 1, 2 => s_l1Parser_not.step (s_l1Parser_or.g k 0) (s_l1Parser_or.g k 1) (s_l1Parser_or.g k 2)
  | _, _ => fun _ => none
theorem s_l1Parser_or_rec : ∀ k : Nat, FSOk Tryz.checked.prog T0 126 (s_l1Parser_or_fs (s_l1Parser_or.g k 0)) ∧ FSOk Tryz.checked.prog T0 145 (s_l1Parser_and_fs (s_l1Parser_or.g k 1)) ∧ FSOk Tryz.checked.prog T0 158 (s_l1Parser_not_fs (s_l1Parser_or.g k 2))
  | 0 => ⟨noneOk (fn := Tryz.f126) (c := Tryz.f126.body.getD .skip) (1) (⟨[(0, (.pt 2000 0))], [(2000, .var 167 [(.d (.sl 9)), (.d (.int .i64)), (.d .bool)])]⟩) (⟨[(0, (.d (.sl 164)))], [(2000, .var 167 [(.d (.sl 9)), (.d (.int .i64)), (.d .bool)])]⟩) [2000] (by kernel_rfl) (by kernel_rfl) (by kernel_rfl), noneOk (fn := Tryz.f145) (c := Tryz.f145.body.getD .skip) (1) (⟨[(0, (.pt 2000 0))], [(2000, .var 167 [(.d (.sl 9)), (.d (.int .i64)), (.d .bool)])]⟩) (⟨[(0, (.d (.sl 164)))], [(2000, .var 167 [(.d (.sl 9)), (.d (.int .i64)), (.d .bool)])]⟩) [2000] (by kernel_rfl) (by kernel_rfl) (by kernel_rfl), noneOk (fn := Tryz.f158) (c := Tryz.f158.body.getD .skip) (1) (⟨[(0, (.pt 2000 0))], [(2000, .var 167 [(.d (.sl 9)), (.d (.int .i64)), (.d .bool)])]⟩) (⟨[(0, (.d (.sl 164)))], [(2000, .var 167 [(.d (.sl 9)), (.d (.int .i64)), (.d .bool)])]⟩) [2000] (by kernel_rfl) (by kernel_rfl) (by kernel_rfl)⟩
  | k + 1 => ⟨s_l1Parser_or_st (s_l1Parser_or_rec k).1 (s_l1Parser_or_rec k).2.1 (s_l1Parser_or_rec k).2.2, s_l1Parser_and_st (s_l1Parser_or_rec k).1 (s_l1Parser_or_rec k).2.1 (s_l1Parser_or_rec k).2.2, s_l1Parser_not_st (s_l1Parser_or_rec k).1 (s_l1Parser_or_rec k).2.1 (s_l1Parser_or_rec k).2.2⟩
def s_l1Parser_or : List C → Option (List C) := s_l1Parser_or.g FUEL 0
theorem s_l1Parser_or_ok : FSOk Tryz.checked.prog T0 126 (s_l1Parser_or_fs s_l1Parser_or) := (s_l1Parser_or_rec FUEL).1
def s_l1Parser_and : List C → Option (List C) := s_l1Parser_or.g FUEL 1
theorem s_l1Parser_and_ok : FSOk Tryz.checked.prog T0 145 (s_l1Parser_and_fs s_l1Parser_and) := (s_l1Parser_or_rec FUEL).2.1
def s_l1Parser_not : List C → Option (List C) := s_l1Parser_or.g FUEL 2
theorem s_l1Parser_not_ok : FSOk Tryz.checked.prog T0 158 (s_l1Parser_not_fs s_l1Parser_not) := (s_l1Parser_or_rec FUEL).2.2
def s_l1Kids.d1 (a b c d : C) : R := (bif (decide (a.I < (b.L.length : Int))) then (bif (decide (0 ≤ a.I)) then (bif (decide (a.I < (b.L.length : Int))) then (bif (!(decide (((b.L.getD a.I.toNat []).getD 3 .nil).I < 0))) then (bif (decide (((b.L.getD a.I.toNat []).getD 3 .nil).I > (d.L.length : Int))) then (some (.ret [.b false, .l c.L])) else (bif (decide (0 ≤ (w64 ((d.L.length : Int) - ((b.L.getD a.I.toNat []).getD 3 .nil).I)))) then (bif (decide ((w64 ((d.L.length : Int) - ((b.L.getD a.I.toNat []).getD 3 .nil).I)) ≤ (d.L.length : Int))) then (bif (decide ((d.L.length : Int) ≤ (d.L.length : Int))) then (bif (decide (nils.length + ((d.L.take (d.L.length : Int).toNat).drop (w64 ((d.L.length : Int) - ((b.L.getD a.I.toNat []).getD 3 .nil).I)).toNat).length ≤ 4294967296)) then (bif (decide (c.L.length + (rows [[.l (nils ++ ((d.L.take (d.L.length : Int).toNat).drop (w64 ((d.L.length : Int) - ((b.L.getD a.I.toNat []).getD 3 .nil).I)).toNat))]]).length ≤ 4294967296)) then (bif (decide (0 ≤ (w64 ((d.L.length : Int) - ((b.L.getD a.I.toNat []).getD 3 .nil).I)))) then (bif (decide ((w64 ((d.L.length : Int) - ((b.L.getD a.I.toNat []).getD 3 .nil).I)) ≤ (d.L.length : Int))) then (bif (decide (((d.L.take (w64 ((d.L.length : Int) - ((b.L.getD a.I.toNat []).getD 3 .nil).I)).toNat).drop 0).length + (rows [[a]]).length ≤ 4294967296)) then (some (.again [.i (w64 (a.I + 1)), b, .l (c.L ++ (rows [[.l (nils ++ ((d.L.take (d.L.length : Int).toNat).drop (w64 ((d.L.length : Int) - ((b.L.getD a.I.toNat []).getD 3 .nil).I)).toNat))]])), .l (((d.L.take (w64 ((d.L.length : Int) - ((b.L.getD a.I.toNat []).getD 3 .nil).I)).toNat).drop 0) ++ (rows [[a]]))])) else none) else none) else none) else none) else none) else none) else none) else none)) else (some (.ret [.b false, .l c.L]))) else none) else none) else (some (.brk 0 [.l c.L, .l d.L])))
def s_l1Kids.d2 (a b : C) : R := (some (.ret [.b ((b.L.length : Int) == 1), .l a.L]))
def s_l1Kids.d3 (a : C) : R := (bindBlk 0 (lim (ap4 s_l1Kids.d1) [.i 0, a, .l nils, .l nils]) (ap2 s_l1Kids.d2))
def s_l1Kids : List C → Option (List C) := fun xs => finR (ap1 s_l1Kids.d3 xs)
def s_l1Kids_fs : FS := ⟨1, ⟨[(0, (.ag [(zl 164)]))], []⟩, ⟨[(0, (.tu [(.ow 3000), zo]))], [(3000, .arr 146)]⟩, [], s_l1Kids⟩
theorem s_l1Kids_ok : FSOk Tryz.checked.prog T0 128 s_l1Kids_fs := okOf base0 (fn := Tryz.f128) (c := Tryz.f128.body.getD .skip) s_l1Kids_fs (.seq .leaf (.seq .leaf (.seq .leaf (.seq (.seq .leaf (.block ⟨[(4, (.ow 8)), (5, (.ow 9))], [(8, .arr 146), (9, .arr 3)]⟩ (.loop ⟨[(1, (.pt 1 0)), (4, (.ow 8)), (5, (.ow 9)), (6, zi)], [(1, .var 131 [(zl 164)]), (8, .arr 146), (9, .arr 3)]⟩ .leaf))) .leaf)))) [] .nil (by kernel_rfl) (by kernel_rfl) (by kernel_rfl) (fun xs => by kernel_rfl)
def s_l1Tree.d1 (a b c : C) : R := (bif b.B then (some (.ret [.b false])) else (some (.again [.i (w64 (a.I + 1)), c])))
def s_l1Tree.d2 (a b c d e f g : C) : R := (bindNrm (bif b.B then (call1 (s_l1NameOk [e]) fun h => (bif (!(!h.B)) then (bif (!b.B) then (bif (!(!(e.S.toList == (bs #[]).toList))) then (bif (d.I == 2) then (call1 (s_l1NameOk [f]) fun i => (bif (!(!i.B)) then (bif (d.I != 2) then (some (.nrm [a, .b (!(f.S.toList == (bs #[]).toList)), c])) else (some (.nrm [a, .b false, c]))) else (some (.nrm [a, .b true, c])))) else (bif (d.I != 2) then (some (.nrm [a, .b (!(f.S.toList == (bs #[]).toList)), c])) else (some (.nrm [a, .b false, c])))) else (some (.nrm [a, .b true, c]))) else (bif (d.I == 2) then (call1 (s_l1NameOk [f]) fun j => (bif (!(!j.B)) then (bif (d.I != 2) then (some (.nrm [a, .b (!(f.S.toList == (bs #[]).toList)), c])) else (some (.nrm [a, .b false, c]))) else (some (.nrm [a, .b true, c])))) else (bif (d.I != 2) then (some (.nrm [a, .b (!(f.S.toList == (bs #[]).toList)), c])) else (some (.nrm [a, .b false, c]))))) else (some (.nrm [a, .b true, c])))) else (bif (!b.B) then (bif (!(!(e.S.toList == (bs #[]).toList))) then (bif (d.I == 2) then (call1 (s_l1NameOk [f]) fun k => (bif (!(!k.B)) then (bif (d.I != 2) then (some (.nrm [a, .b (!(f.S.toList == (bs #[]).toList)), c])) else (some (.nrm [a, .b false, c]))) else (some (.nrm [a, .b true, c])))) else (bif (d.I != 2) then (some (.nrm [a, .b (!(f.S.toList == (bs #[]).toList)), c])) else (some (.nrm [a, .b false, c])))) else (some (.nrm [a, .b true, c]))) else (bif (d.I == 2) then (call1 (s_l1NameOk [f]) fun l => (bif (!(!l.B)) then (bif (d.I != 2) then (some (.nrm [a, .b (!(f.S.toList == (bs #[]).toList)), c])) else (some (.nrm [a, .b false, c]))) else (some (.nrm [a, .b true, c])))) else (bif (d.I != 2) then (some (.nrm [a, .b (!(f.S.toList == (bs #[]).toList)), c])) else (some (.nrm [a, .b false, c])))))) (ap3 s_l1Tree.d1))
def s_l1Tree.d3 (a b c d e f : C) : R := (bindNrm (bif (!(c.I == 1)) then (some (.nrm [a, .b (c.I == 2), b, c, d, e, f])) else (some (.nrm [a, .b true, b, c, d, e, f]))) (ap7 s_l1Tree.d2))
def s_l1Tree.d4 (a b : C) : R := (bif (decide (a.I < (b.L.length : Int))) then (bif (decide (0 ≤ a.I)) then (bif (decide (a.I < (b.L.length : Int))) then (bindNrm (call1 (s_l1In [((b.L.getD a.I.toNat []).getD 0 .nil), .i 0, .i 5]) fun c => (bif (!(!c.B)) then (bif (decide (0 ≤ ((b.L.getD a.I.toNat []).getD 0 .nil).I)) then (bif (decide (((b.L.getD a.I.toNat []).getD 0 .nil).I < ((rows [[.i 0], [.i 0], [.i 0], [.i 1], [.i 2], [.i 2]]).length : Int))) then (bif (!(((b.L.getD a.I.toNat []).getD 3 .nil).I != (((rows [[.i 0], [.i 0], [.i 0], [.i 1], [.i 2], [.i 2]]).getD (((b.L.getD a.I.toNat []).getD 0 .nil).I).toNat []).getD 0 .nil).I)) then (bif (((b.L.getD a.I.toNat []).getD 0 .nil).I == 0) then (bif (decide ((b.L.length : Int) > 1)) then (some (.ret [.b false])) else (some (.nrm [a, b, ((b.L.getD a.I.toNat []).getD 0 .nil), ((b.L.getD a.I.toNat []).getD 1 .nil), ((b.L.getD a.I.toNat []).getD 2 .nil), ((b.L.getD a.I.toNat []).getD 3 .nil)]))) else (some (.nrm [a, b, ((b.L.getD a.I.toNat []).getD 0 .nil), ((b.L.getD a.I.toNat []).getD 1 .nil), ((b.L.getD a.I.toNat []).getD 2 .nil), ((b.L.getD a.I.toNat []).getD 3 .nil)]))) else (some (.ret [.b false]))) else none) else none) else (some (.ret [.b false])))) (ap6 s_l1Tree.d3)) else none) else none) else (some (.brk 0 [])))
def s_l1Tree.d5 : R := (some (.ret [.b true]))
def s_l1Tree.d6 (a : C) : R := (bif (decide ((a.L.length : Int) > 400)) then (some (.ret [.b false])) else (call2 (s_l1Kids [a]) fun b c => (bif (!b.B) then (some (.ret [.b false])) else (bindBlk 0 (lim (ap2 s_l1Tree.d4) [.i 0, a]) (fun xs => s_l1Tree.d5)))))
def s_l1Tree : List C → Option (List C) := fun xs => finR (ap1 s_l1Tree.d6 xs)
def s_l1Tree_fs : FS := ⟨1, ⟨[(0, (.ag [(zl 164)]))], []⟩, ⟨[(0, zo)], []⟩, [], s_l1Tree⟩
theorem s_l1Tree_ok : FSOk Tryz.checked.prog T0 148 s_l1Tree_fs := okOf base0 (fn := Tryz.f148) (c := Tryz.f148.body.getD .skip) s_l1Tree_fs (.seq .leaf (.seq .leaf (.seq .leaf (.seq .leaf (.seq (.seq .leaf (.block ⟨[], []⟩ (.loop ⟨[(1, (.pt 1 0)), (5, zi)], [(1, .var 131 [(zl 164)])]⟩ (.seq .leaf (.seq (.skip (.seq .leaf (.seq (.join ⟨[(1, (.pt 1 0)), (5, zi), (6, (.pt 6 0))], [(1, .var 131 [(zl 164)]), (6, .var 164 [zi, zt, zt, zi])]⟩ .leaf) (.seq (.join ⟨[(1, (.pt 1 0)), (5, zi), (6, (.pt 6 0)), (7, zo)], [(1, .var 131 [(zl 164)]), (6, .var 164 [zi, zt, zt, zi])]⟩ .leaf) (.seq (.join ⟨[(1, (.pt 1 0)), (5, zi), (100, zo)], [(1, .var 131 [(zl 164)])]⟩ .leaf) .leaf))))) .leaf))))) .leaf))))) [(58, some 68, s_l1NameOk_fs), (58, some 87, s_l1NameOk_fs), (59, some 33, s_l1In_fs), (128, some 14, s_l1Kids_fs)] (.cons s_l1NameOk_ok (.cons s_l1NameOk_ok (.cons s_l1In_ok (.cons s_l1Kids_ok .nil)))) (by kernel_rfl) (by kernel_rfl) (by kernel_rfl) (fun xs => by kernel_rfl)
end
end Go.Ev
namespace Go.Ev
open Go.Proofs
noncomputable section
def s_l1Nest.d1 (G0 : List C → Option (List C)) (a b c d : C) : R := (bif (decide (0 ≤ b.I)) then (bif (decide (b.I < (a.L.length : Int))) then (bif (decide (d.I < ((((a.L.getD b.I.toNat []).getD 0 .nil).L).length : Int))) then (bif (decide (0 ≤ b.I)) then (bif (decide (b.I < (a.L.length : Int))) then (bif (decide (0 ≤ d.I)) then (bif (decide (d.I < ((((a.L.getD b.I.toNat []).getD 0 .nil).L).length : Int))) then (call1 (G0 [a, (((((a.L.getD b.I.toNat []).getD 0 .nil).L).getD d.I.toNat []).getD 0 .nil)]) fun e => (bif (decide ((w64 (e.I + 1)) > c.I)) then (some (.again [a, b, .i (w64 (e.I + 1)), .i (w64 (d.I + 1))])) else (some (.again [a, b, c, .i (w64 (d.I + 1))])))) else none) else none) else none) else none) else (some (.brk 0 [c]))) else none) else none)
def s_l1Nest.d2 (G0 : List C → Option (List C)) (a : C) : R := (some (.ret [a]))
def s_l1Nest.d3 (G0 : List C → Option (List C)) (a b : C) : R := (bindBlk 0 (lim (ap4 (s_l1Nest.d1 G0)) [a, b, .i 0, .i 0]) (ap1 (s_l1Nest.d2 G0)))
def s_l1Nest.step (G0 : List C → Option (List C)) : List C → Option (List C) := fun xs => finR (ap2 (s_l1Nest.d3 G0) xs)
def s_l1Nest_fs (G : List C → Option (List C)) : FS := ⟨2, ⟨[(0, (.d (.sl 146))), (1, (.d (.int .i64)))], []⟩, ⟨[(0, (.d (.int .i64)))], []⟩, [], G⟩
theorem s_l1Nest_st {G0 : List C → Option (List C)} (h0 : FSOk Tryz.checked.prog T0 149 (s_l1Nest_fs G0)) : FSOk Tryz.checked.prog T0 149 (s_l1Nest_fs (s_l1Nest.step G0)) := okOf base0 (fn := Tryz.f149) (c := Tryz.f149.body.getD .skip) (s_l1Nest_fs (s_l1Nest.step G0)) (.seq .leaf (.seq .leaf (.seq (.seq .leaf (.block ⟨[(5, (.d (.int .i64)))], []⟩ (.loop ⟨[(0, (.d (.sl 146))), (1, (.d (.int .i64))), (5, (.d (.int .i64))), (6, (.d (.int .i64)))], []⟩ .leaf))) .leaf))) [(149, some 25, (s_l1Nest_fs G0))] (.cons h0 .nil) (by kernel_rfl) (by kernel_rfl) (by kernel_rfl) (fun xs => by kernel_rfl)
def s_l1Nest.g : Nat → Nat → List C → Option (List C)
  | 0, _ => fun _ => none
  | k + 1, 0 => s_l1Nest.step (s_l1Nest.g k 0)
  | _, _ => fun _ => none
theorem s_l1Nest_rec : ∀ k : Nat, FSOk Tryz.checked.prog T0 149 (s_l1Nest_fs (s_l1Nest.g k 0))
  | 0 => noneOk (fn := Tryz.f149) (c := Tryz.f149.body.getD .skip) (2) (⟨[(0, (.d (.sl 146))), (1, (.d (.int .i64)))], []⟩) (⟨[(0, (.d (.int .i64)))], []⟩) [] (by kernel_rfl) (by kernel_rfl) (by kernel_rfl)
  | k + 1 => s_l1Nest_st (s_l1Nest_rec k)
def s_l1Nest : List C → Option (List C) := s_l1Nest.g FUEL 0
theorem s_l1Nest_ok : FSOk Tryz.checked.prog T0 149 (s_l1Nest_fs s_l1Nest) := s_l1Nest_rec FUEL
def s_l1Valid.d1 (a : C) : R := (call1 (s_l1Tree [a]) fun b => (bif (!b.B) then (some (.ret [.b false])) else (call2 (s_l1Kids [a]) fun c d => (call1 (s_l1Nest [.l d.L, .i (w64 ((a.L.length : Int) - 1))]) fun e => (some (.ret [.b (decide (e.I ≤ 20))]))))))
def s_l1Valid : List C → Option (List C) := fun xs => finR (ap1 s_l1Valid.d1 xs)
def s_l1Valid_fs : FS := ⟨1, ⟨[(0, (.ag [(zl 164)]))], []⟩, ⟨[(0, zo)], []⟩, [], s_l1Valid⟩
theorem s_l1Valid_ok : FSOk Tryz.checked.prog T0 127 s_l1Valid_fs := okOf base0 (fn := Tryz.f127) (c := Tryz.f127.body.getD .skip) s_l1Valid_fs .leaf [(128, some 10, s_l1Kids_fs), (148, some 6, s_l1Tree_fs), (149, some 18, (s_l1Nest_fs s_l1Nest))] (.cons s_l1Kids_ok (.cons s_l1Tree_ok (.cons s_l1Nest_ok .nil))) (by kernel_rfl) (by kernel_rfl) (by kernel_rfl) (fun xs => by kernel_rfl)
def s_PilotParse.d1 (a : C) : R := (bif (decide ((a.S.size : Int) > 200)) then (some (.ret [.l nils, .i 1])) else (call2 (s_l1Tokens [a]) fun b c => (bif (!b.B) then (some (.ret [.l nils, .i 2])) else (bif ((c.L.length : Int) == 0) then (some (.ret [.l (rows [[.i 0, .s (bs #[]), .s (bs #[]), .i 0]]), .i 0])) else (call4 (s_l1Parser_or [.l c.L, .i 0, .b false]) fun d e f g => (bif (!g.B) then (bif (decide (f.I < (c.L.length : Int))) then (some (.ret [.l nils, .i 2])) else (call1 (s_l1Valid [d]) fun h => (bif (!h.B) then (some (.ret [.l nils, .i 3])) else (some (.ret [d, .i 0]))))) else (some (.ret [.l nils, .i 2]))))))))
def s_PilotParse : List C → Option (List C) := fun xs => finR (ap1 s_PilotParse.d1 xs)
def s_PilotParse_fs : FS := ⟨1, ⟨[(0, zt)], []⟩, ⟨[(0, (.tu [(.ag [(zl 164)]), zi]))], []⟩, [], s_PilotParse⟩
theorem s_PilotParse_ok : FSOk Tryz.checked.prog T0 106 s_PilotParse_fs := okOf base0 (fn := Tryz.f106) (c := Tryz.f106.body.getD .skip) s_PilotParse_fs (.seq .leaf (.seq .leaf (.seq .leaf (.seq .leaf (.seq (.seq .leaf (.cond (.seq .leaf (.frz [24] .leaf)) .leaf)) (.seq .leaf (.seq (.frz [64440] .leaf) .leaf))))))) [(125, some 14, s_l1Tokens_fs), (126, some 30, (s_l1Parser_or_fs s_l1Parser_or)), (127, some 47, s_l1Valid_fs)] (.cons s_l1Tokens_ok (.cons s_l1Parser_or_ok (.cons s_l1Valid_ok .nil))) (by kernel_rfl) (by kernel_rfl) (by kernel_rfl) (fun xs => by kernel_rfl)
def s_l2SelectOk.d1 (a : C) : R := (call2 (s_PilotParse [a]) fun b c => (some (.ret [.b (c.I == 0)])))
def s_l2SelectOk : List C → Option (List C) := fun xs => finR (ap1 s_l2SelectOk.d1 xs)
def s_l2SelectOk_fs : FS := ⟨1, ⟨[(0, zt)], []⟩, ⟨[(0, zo)], []⟩, [], s_l2SelectOk⟩
theorem s_l2SelectOk_ok : FSOk Tryz.checked.prog T0 97 s_l2SelectOk_fs := okOf base0 (fn := Tryz.f97) (c := Tryz.f97.body.getD .skip) s_l2SelectOk_fs .leaf [(106, some 7, s_PilotParse_fs)] (.cons s_PilotParse_ok .nil) (by kernel_rfl) (by kernel_rfl) (by kernel_rfl) (fun xs => by kernel_rfl)
def s_l2CopyOk.d1 (a b c d e f g h i j k l m : C) : R := (bif (decide (a.I < (i.L.length : Int))) then (bif (decide (0 ≤ a.I)) then (bif (decide (a.I < (i.L.length : Int))) then (call1 (s_l2SelectOk [((i.L.getD a.I.toNat []).getD 0 .nil)]) fun n => (bif (!(!n.B)) then (bif (decide (0 ≤ a.I)) then (bif (decide (a.I < (i.L.length : Int))) then (call1 (s_l1In [((i.L.getD a.I.toNat []).getD 1 .nil), .i (-9), .i 9]) fun o => (bif (!o.B) then (some (.ret [.b false])) else (some (.again [.i (w64 (a.I + 1)), b, c, d, e, f, g, h, i, j, k, l, m])))) else none) else none) else (some (.ret [.b false])))) else none) else none) else (some (.brk 0 [])))
def s_l2CopyOk.d2 : R := (some (.ret [.b true]))
def s_l2CopyOk.d3 (a b c d e f g h i j k l m : C) : R := (bif a.B then (some (.ret [.b false])) else (bindBlk 0 (lim (ap13 s_l2CopyOk.d1) [.i 0, b, c, d, e, f, g, h, i, j, k, l, m]) (fun xs => s_l2CopyOk.d2)))
def s_l2CopyOk.d4 (a b c d e f g h i j k l : C) : R := (call1 (s_l1NameOk [a]) fun m => (bif (!(!m.B)) then (call1 (s_l1NameOk [b]) fun n => (bif (!(!n.B)) then (call1 (s_l1In [c, .i 0, .i 100]) fun o => (bif (!(!o.B)) then (call1 (s_l1In [d, .i 0, .i 1000000]) fun p => (bif (!(!p.B)) then (call1 (s_l1In [e, .i 0, .i 1000]) fun q => (bif (!(!q.B)) then (call1 (s_l1In [f, .i 0, .i 1000]) fun r => (bif (!r.B) then (some (.ret [.b false])) else (bindNrm (call1 (s_l2SelectOk [g]) fun s => (bif (!(!s.B)) then (bif (!(decide ((h.L.length : Int) > 5))) then (call1 (s_l1In [i, .i 0, .i 2]) fun t => (bif (!(!t.B)) then (bif (!(j.S.toList == (bs #[]).toList)) then (call1 (s_l1NameOk [j]) fun u => (bif (!(!u.B)) then (bif (!(k.S.toList == (bs #[]).toList)) then (call1 (s_l1NameOk [k]) fun v => (some (.nrm [.b (!v.B), a, b, c, d, e, f, g, h, i, j, k, l]))) else (some (.nrm [.b false, a, b, c, d, e, f, g, h, i, j, k, l]))) else (some (.nrm [.b true, a, b, c, d, e, f, g, h, i, j, k, l])))) else (bif (!(k.S.toList == (bs #[]).toList)) then (call1 (s_l1NameOk [k]) fun w => (some (.nrm [.b (!w.B), a, b, c, d, e, f, g, h, i, j, k, l]))) else (some (.nrm [.b false, a, b, c, d, e, f, g, h, i, j, k, l])))) else (some (.nrm [.b true, a, b, c, d, e, f, g, h, i, j, k, l])))) else (some (.nrm [.b true, a, b, c, d, e, f, g, h, i, j, k, l]))) else (some (.nrm [.b true, a, b, c, d, e, f, g, h, i, j, k, l])))) (ap13 s_l2CopyOk.d3)))) else (some (.ret [.b false])))) else (some (.ret [.b false])))) else (some (.ret [.b false])))) else (some (.ret [.b false])))) else (some (.ret [.b false]))))
def s_l2CopyOk : List C → Option (List C) := fun xs => finR (ap12 s_l2CopyOk.d4 xs)
def s_l2CopyOk_fs : FS := ⟨1, ⟨[(0, z4)], []⟩, ⟨[(0, zo)], []⟩, [], s_l2CopyOk⟩
theorem s_l2CopyOk_ok : FSOk Tryz.checked.prog T0 60 s_l2CopyOk_fs := okOf base0 (fn := Tryz.f60) (c := Tryz.f60.body.getD .skip) s_l2CopyOk_fs (.seq .leaf (.seq .leaf (.seq (.seq (.join ⟨[(1, (.pt 1 0)), (75, zo)], [(1, z0)]⟩ .leaf) .leaf) (.seq (.seq .leaf (.block ⟨[], []⟩ (.loop ⟨[(1, (.pt 1 0)), (3, zi)], [(1, z0)]⟩ .leaf))) .leaf)))) [(58, some 6, s_l1NameOk_fs), (58, some 11, s_l1NameOk_fs), (58, some 61, s_l1NameOk_fs), (58, some 72, s_l1NameOk_fs), (59, some 17, s_l1In_fs), (59, some 23, s_l1In_fs), (59, some 29, s_l1In_fs), (59, some 35, s_l1In_fs), (59, some 51, s_l1In_fs), (59, some 98, s_l1In_fs), (97, some 40, s_l2SelectOk_fs), (97, some 89, s_l2SelectOk_fs)] (.cons s_l1NameOk_ok (.cons s_l1NameOk_ok (.cons s_l1NameOk_ok (.cons s_l1NameOk_ok (.cons s_l1In_ok (.cons s_l1In_ok (.cons s_l1In_ok (.cons s_l1In_ok (.cons s_l1In_ok (.cons s_l1In_ok (.cons s_l2SelectOk_ok (.cons s_l2SelectOk_ok .nil)))))))))))) (by kernel_rfl) (by kernel_rfl) (by kernel_rfl) (fun xs => by kernel_rfl)
def s_l2Service.d1 (a b c d e f : C) : R := (bif (decide (b.I < (e.L.length : Int))) then (bif (decide (0 ≤ b.I)) then (bif (decide (b.I < (e.L.length : Int))) then (bif ((((e.L.getD b.I.toNat []).getD 0 .nil).S).toList == a.S.toList) then (some (.ret [b])) else (some (.again [a, .i (w64 (b.I + 1)), c, d, e, f]))) else none) else none) else (some (.brk 0 [])))
def s_l2Service.d2 : R := (some (.ret [.i (-1)]))
def s_l2Service.d3 (a b c d e : C) : R := (bindBlk 0 (lim (ap6 s_l2Service.d1) [e, .i 0, a, b, c, d]) (fun xs => s_l2Service.d2))
def s_l2Service : List C → Option (List C) := fun xs => finR (ap5 s_l2Service.d3 xs)
def s_l2Service_fs : FS := ⟨2, ⟨[(0, z2), (1, zt)], []⟩, ⟨[(0, zi)], []⟩, [], s_l2Service⟩
theorem s_l2Service_ok : FSOk Tryz.checked.prog T0 61 s_l2Service_fs := okOf base0 (fn := Tryz.f61) (c := Tryz.f61.body.getD .skip) s_l2Service_fs (.seq .leaf (.seq (.seq .leaf (.block ⟨[], []⟩ (.loop ⟨[(1, zt), (2, (.pt 2 0)), (5, zi)], [(2, z1)]⟩ .leaf))) .leaf)) [] .nil (by kernel_rfl) (by kernel_rfl) (by kernel_rfl) (fun xs => by kernel_rfl)
def s_l2Berth.d1 (a b c d e f : C) : R := (bif (decide (b.I < (d.L.length : Int))) then (bif (decide (0 ≤ b.I)) then (bif (decide (b.I < (d.L.length : Int))) then (bif ((((d.L.getD b.I.toNat []).getD 0 .nil).S).toList == a.S.toList) then (some (.ret [b])) else (some (.again [a, .i (w64 (b.I + 1)), c, d, e, f]))) else none) else none) else (some (.brk 0 [])))
def s_l2Berth.d2 : R := (some (.ret [.i (-1)]))
def s_l2Berth.d3 (a b c d e : C) : R := (bindBlk 0 (lim (ap6 s_l2Berth.d1) [e, .i 0, a, b, c, d]) (fun xs => s_l2Berth.d2))
def s_l2Berth : List C → Option (List C) := fun xs => finR (ap5 s_l2Berth.d3 xs)
def s_l2Berth_fs : FS := ⟨2, ⟨[(0, z2), (1, zt)], []⟩, ⟨[(0, zi)], []⟩, [], s_l2Berth⟩
theorem s_l2Berth_ok : FSOk Tryz.checked.prog T0 47 s_l2Berth_fs := okOf base0 (fn := Tryz.f47) (c := Tryz.f47.body.getD .skip) s_l2Berth_fs (.seq .leaf (.seq (.seq .leaf (.block ⟨[], []⟩ (.loop ⟨[(1, zt), (2, (.pt 2 0)), (5, zi)], [(2, z1)]⟩ .leaf))) .leaf)) [] .nil (by kernel_rfl) (by kernel_rfl) (by kernel_rfl) (fun xs => by kernel_rfl)
def s_PilotUsed.d1 (a b c d e f g h i : C) : R := (bif e.B then (bif (decide (0 ≤ d.I)) then (bif (decide (d.I < (i.L.length : Int))) then (bif (decide (0 ≤ d.I)) then (bif (decide (d.I < (i.L.length : Int))) then (some (.again [a, .i (w64 (b.I + ((i.L.getD d.I.toNat []).getD 4 .nil).I)), .i (w64 (c.I + ((i.L.getD d.I.toNat []).getD 5 .nil).I)), .i (w64 (d.I + 1)), f, g, h, i])) else none) else none) else none) else none) else (some (.again [a, b, c, .i (w64 (d.I + 1)), f, g, h, i])))
def s_PilotUsed.d2 (a b c d e f g h : C) : R := (bif (decide (d.I < (h.L.length : Int))) then (bindNrm (bif (!(a.S.toList == (bs #[]).toList)) then (bif (decide (0 ≤ d.I)) then (bif (decide (d.I < (h.L.length : Int))) then (some (.nrm [a, b, c, d, .b ((((h.L.getD d.I.toNat []).getD 11 .nil).S).toList == a.S.toList), e, f, g, h])) else none) else none) else (some (.nrm [a, b, c, d, .b false, e, f, g, h]))) (ap9 s_PilotUsed.d1)) else (some (.brk 0 [b, c])))
def s_PilotUsed.d3 (a b : C) : R := (some (.ret [a, b]))
def s_PilotUsed.d4 (a b c d e : C) : R := (call1 (s_l2Berth [a, b, c, d, e]) fun f => (bif (decide (f.I < 0)) then (some (.ret [.i 0, .i 0])) else (bindBlk 0 (lim (ap8 s_PilotUsed.d2) [e, .i 0, .i 0, .i 0, a, b, c, d]) (ap2 s_PilotUsed.d3))))
def s_PilotUsed : List C → Option (List C) := fun xs => finR (ap5 s_PilotUsed.d4 xs)
def s_PilotUsed_fs : FS := ⟨2, ⟨[(0, z2), (1, zt)], []⟩, ⟨[(0, (.tu [zi, zi]))], []⟩, [], s_PilotUsed⟩
theorem s_PilotUsed_ok : FSOk Tryz.checked.prog T0 62 s_PilotUsed_fs := okOf base0 (fn := Tryz.f62) (c := Tryz.f62.body.getD .skip) s_PilotUsed_fs (.seq .leaf (.seq .leaf (.seq .leaf (.seq .leaf (.seq (.seq .leaf (.block ⟨[(6, zi), (7, zi)], []⟩ (.loop ⟨[(1, zt), (2, (.pt 2 0)), (6, zi), (7, zi), (8, zi)], [(2, z1)]⟩ (.seq .leaf (.seq (.skip (.seq (.join ⟨[(1, zt), (2, (.pt 2 0)), (6, zi), (7, zi), (8, zi), (31, zo)], [(2, z1)]⟩ .leaf) .leaf)) .leaf))))) .leaf))))) [(47, some 11, s_l2Berth_fs)] (.cons s_l2Berth_ok .nil) (by kernel_rfl) (by kernel_rfl) (by kernel_rfl) (fun xs => by kernel_rfl)
def s_l1Mark.d1 (a b : C) : R := (bif (decide (b.I < (a.S.size : Int))) then (bif (decide (0 ≤ b.I)) then (bif (decide (b.I < (a.S.size : Int))) then (bif (((a.S.data.getD b.I.toNat 0).toNat : Int) == 61) then (bif (decide (0 ≤ b.I)) then (bif (decide (b.I ≤ (a.S.size : Int))) then (bif (decide (0 ≤ (w64 (b.I + 1)))) then (bif (decide ((w64 (b.I + 1)) ≤ (a.S.size : Int))) then (bif (decide ((a.S.size : Int) ≤ (a.S.size : Int))) then (bif (decide (0 ≤ b.I)) then (bif (decide (b.I ≤ (a.S.size : Int))) then (call1 (s_l1NameOk [.s (a.S.extract 0 b.I.toNat)]) fun c => (bif c.B then (bif (decide (0 ≤ (w64 (b.I + 1)))) then (bif (decide ((w64 (b.I + 1)) ≤ (a.S.size : Int))) then (bif (decide ((a.S.size : Int) ≤ (a.S.size : Int))) then (call1 (s_l1NameOk [.s (a.S.extract (w64 (b.I + 1)).toNat (a.S.size : Int).toNat)]) fun d => (some (.ret [.s (a.S.extract 0 b.I.toNat), .s (a.S.extract (w64 (b.I + 1)).toNat (a.S.size : Int).toNat), .b d.B]))) else none) else none) else none) else (some (.ret [.s (a.S.extract 0 b.I.toNat), .s (a.S.extract (w64 (b.I + 1)).toNat (a.S.size : Int).toNat), .b false])))) else none) else none) else none) else none) else none) else none) else none) else (some (.again [a, .i (w64 (b.I + 1))]))) else none) else none) else (some (.brk 0 [a])))
def s_l1Mark.d2 (a : C) : R := (call1 (s_l1NameOk [a]) fun b => (some (.ret [a, .s (bs #[]), .b b.B])))
def s_l1Mark.d3 (a : C) : R := (bindBlk 0 (lim (ap2 s_l1Mark.d1) [a, .i 0]) (ap1 s_l1Mark.d2))
def s_l1Mark : List C → Option (List C) := fun xs => finR (ap1 s_l1Mark.d3 xs)
def s_l1Mark_fs : FS := ⟨1, ⟨[(0, zt)], []⟩, ⟨[(0, (.tu [zt, zt, zo]))], []⟩, [], s_l1Mark⟩
theorem s_l1Mark_ok : FSOk Tryz.checked.prog T0 116 s_l1Mark_fs := okOf base0 (fn := Tryz.f116) (c := Tryz.f116.body.getD .skip) s_l1Mark_fs (.seq .leaf (.seq (.seq .leaf (.block ⟨[(0, zt)], []⟩ (.loop ⟨[(0, zt), (5, zi)], []⟩ .leaf))) .leaf)) [(58, some 26, s_l1NameOk_fs), (58, some 32, s_l1NameOk_fs), (58, some 36, s_l1NameOk_fs)] (.cons s_l1NameOk_ok (.cons s_l1NameOk_ok (.cons s_l1NameOk_ok .nil))) (by kernel_rfl) (by kernel_rfl) (by kernel_rfl) (fun xs => by kernel_rfl)
def s_l2MarksOk.d1 (a b c d : C) : R := (bif (decide (d.I < b.I)) then (bif (decide (0 ≤ d.I)) then (bif (decide (d.I < (a.L.length : Int))) then (call3 (s_l1Mark [((a.L.getD d.I.toNat []).getD 0 .nil)]) fun e f g => (bif (e.S.toList == c.S.toList) then (some (.ret [.b false])) else (some (.again [a, b, c, .i (w64 (d.I + 1))])))) else none) else none) else (some (.brk 2 [a, b, c])))
def s_l2MarksOk.d2 (a b c : C) : R := (some (.again [a, c, .i (w64 (b.I + 1))]))
def s_l2MarksOk.d3 (a b c : C) : R := (bindBlk 2 (lim (ap4 s_l2MarksOk.d1) [a, b, c, .i 0]) (ap3 s_l2MarksOk.d2))
def s_l2MarksOk.d4 (a b c : C) : R := (bif (decide (c.I < (a.L.length : Int))) then (bif (decide (0 ≤ c.I)) then (bif (decide (c.I < (a.L.length : Int))) then (call3 (s_l1Mark [((a.L.getD c.I.toNat []).getD 0 .nil)]) fun d e f => (bindNrm (bif (!(!f.B)) then (bif (decide (c.I > 0)) then (bif (decide (0 ≤ (w64 (c.I - 1)))) then (bif (decide ((w64 (c.I - 1)) < (a.L.length : Int))) then (bif (decide (0 ≤ c.I)) then (bif (decide (c.I < (a.L.length : Int))) then (bif (!(!(Op.bytesLess (((a.L.getD (w64 (c.I - 1)).toNat []).getD 0 .nil).S).toList (((a.L.getD c.I.toNat []).getD 0 .nil).S).toList))) then (bif (d.S.toList == b.S.toList) then (some (.ret [.b false])) else (some (.nrm [a, c, d]))) else (some (.ret [.b false]))) else none) else none) else none) else none) else (some (.nrm [a, c, d]))) else (some (.ret [.b false]))) (ap3 s_l2MarksOk.d3))) else none) else none) else (some (.brk 0 [])))
def s_l2MarksOk.d5 : R := (some (.ret [.b true]))
def s_l2MarksOk.d6 (a : C) : R := (bif (decide ((a.L.length : Int) > 10)) then (some (.ret [.b false])) else (bindBlk 0 (lim (ap3 s_l2MarksOk.d4) [a, .s (bs #[]), .i 0]) (fun xs => s_l2MarksOk.d5)))
def s_l2MarksOk : List C → Option (List C) := fun xs => finR (ap1 s_l2MarksOk.d6 xs)
def s_l2MarksOk_fs : FS := ⟨1, ⟨[(0, (zl 9))], []⟩, ⟨[(0, zo)], []⟩, [], s_l2MarksOk⟩
theorem s_l2MarksOk_ok : FSOk Tryz.checked.prog T0 98 s_l2MarksOk_fs := okOf base0 (fn := Tryz.f98) (c := Tryz.f98.body.getD .skip) s_l2MarksOk_fs (.seq .leaf (.seq .leaf (.seq .leaf (.seq (.seq .leaf (.block ⟨[], []⟩ (.loop ⟨[(0, (zl 9)), (3, zt), (4, zi)], []⟩ (.seq .leaf (.seq (.skip (.seq .leaf (.seq (.join ⟨[(0, (zl 9)), (4, zi), (5, zt)], []⟩ .leaf) (.seq (.seq .leaf (.block ⟨[(0, (zl 9)), (4, zi), (5, zt)], []⟩ (.loop ⟨[(0, (zl 9)), (4, zi), (5, zt), (8, zi)], []⟩ .leaf))) .leaf)))) .leaf))))) .leaf)))) [(116, some 26, s_l1Mark_fs), (116, some 63, s_l1Mark_fs)] (.cons s_l1Mark_ok (.cons s_l1Mark_ok .nil)) (by kernel_rfl) (by kernel_rfl) (by kernel_rfl) (fun xs => by kernel_rfl)
def s_l2BerthOk.d1 (a b c d e f : C) : R := (call1 (s_l1NameOk [a]) fun g => (bif g.B then (call1 (s_l1NameOk [b]) fun h => (bif h.B then (call1 (s_l2MarksOk [c]) fun i => (bif i.B then (call1 (s_l1In [d, .i 0, .i 1000]) fun j => (bif j.B then (call1 (s_l1In [e, .i 0, .i 1000]) fun k => (some (.ret [.b k.B]))) else (some (.ret [.b false])))) else (some (.ret [.b false])))) else (some (.ret [.b false])))) else (some (.ret [.b false]))))
def s_l2BerthOk : List C → Option (List C) := fun xs => finR (ap6 s_l2BerthOk.d1 xs)
def s_l2BerthOk_fs : FS := ⟨1, ⟨[(0, z6)], []⟩, ⟨[(0, zo)], []⟩, [], s_l2BerthOk⟩
theorem s_l2BerthOk_ok : FSOk Tryz.checked.prog T0 63 s_l2BerthOk_fs := okOf base0 (fn := Tryz.f63) (c := Tryz.f63.body.getD .skip) s_l2BerthOk_fs .leaf [(58, some 5, s_l1NameOk_fs), (58, some 9, s_l1NameOk_fs), (59, some 19, s_l1In_fs), (59, some 24, s_l1In_fs), (98, some 14, s_l2MarksOk_fs)] (.cons s_l1NameOk_ok (.cons s_l1NameOk_ok (.cons s_l1In_ok (.cons s_l1In_ok (.cons s_l2MarksOk_ok .nil))))) (by kernel_rfl) (by kernel_rfl) (by kernel_rfl) (fun xs => by kernel_rfl)
def s_l2Stand.d1 (a b c d e f g : C) : R := (bif (decide (c.I < (g.L.length : Int))) then (bif (decide (0 ≤ c.I)) then (bif (decide (c.I < (g.L.length : Int))) then (bif ((((g.L.getD c.I.toNat []).getD 11 .nil).S).toList == a.S.toList) then (some (.again [a, .i (w64 (b.I + 1)), .i (w64 (c.I + 1)), d, e, f, g])) else (some (.again [a, b, .i (w64 (c.I + 1)), d, e, f, g]))) else none) else none) else (some (.brk 0 [b])))
def s_l2Stand.d2 (a : C) : R := (some (.ret [a]))
def s_l2Stand.d3 (a b c d e : C) : R := (bindBlk 0 (lim (ap7 s_l2Stand.d1) [e, .i 0, .i 0, a, b, c, d]) (ap1 s_l2Stand.d2))
def s_l2Stand : List C → Option (List C) := fun xs => finR (ap5 s_l2Stand.d3 xs)
def s_l2Stand_fs : FS := ⟨2, ⟨[(0, z2), (1, zt)], []⟩, ⟨[(0, zi)], []⟩, [], s_l2Stand⟩
theorem s_l2Stand_ok : FSOk Tryz.checked.prog T0 64 s_l2Stand_fs := okOf base0 (fn := Tryz.f64) (c := Tryz.f64.body.getD .skip) s_l2Stand_fs (.seq .leaf (.seq .leaf (.seq (.seq .leaf (.block ⟨[(5, zi)], []⟩ (.loop ⟨[(1, zt), (2, (.pt 2 0)), (5, zi), (6, zi)], [(2, z1)]⟩ .leaf))) .leaf))) [] .nil (by kernel_rfl) (by kernel_rfl) (by kernel_rfl) (fun xs => by kernel_rfl)
def s_PilotValid.d1 (a b c d e : C) : R := (bif (decide (a.I < (d.L.length : Int))) then (bif (decide (0 ≤ a.I)) then (bif (decide (a.I < (d.L.length : Int))) then (call1 (s_l1NameOk [((d.L.getD a.I.toNat []).getD 0 .nil)]) fun f => (bif (!(!f.B)) then (bif (decide (a.I > 0)) then (bif (decide (0 ≤ (w64 (a.I - 1)))) then (bif (decide ((w64 (a.I - 1)) < (d.L.length : Int))) then (bif (!(!(Op.bytesLess (((d.L.getD (w64 (a.I - 1)).toNat []).getD 0 .nil).S).toList (((d.L.getD a.I.toNat []).getD 0 .nil).S).toList))) then (call1 (s_l1In [((d.L.getD a.I.toNat []).getD 1 .nil), .i 0, .i 60]) fun g => (bif (!g.B) then (some (.ret [.b false])) else (some (.again [.i (w64 (a.I + 1)), b, c, d, e])))) else (some (.ret [.b false]))) else none) else none) else (call1 (s_l1In [((d.L.getD a.I.toNat []).getD 1 .nil), .i 0, .i 60]) fun h => (bif (!h.B) then (some (.ret [.b false])) else (some (.again [.i (w64 (a.I + 1)), b, c, d, e]))))) else (some (.ret [.b false])))) else none) else none) else (some (.brk 0 [b, c, d, e])))
def s_PilotValid.d2 (a b c d e f : C) : R := (bif b.B then (some (.ret [.b false])) else (some (.again [.i (w64 (a.I + 1)), c, d, e, f])))
def s_PilotValid.d3 (a b c d e : C) : R := (bif (decide (a.I < (e.L.length : Int))) then (bif (decide (0 ≤ a.I)) then (bif (decide (a.I < (e.L.length : Int))) then (bindNrm (call1 (s_l2CopyOk [((e.L.getD a.I.toNat []).getD 0 .nil), ((e.L.getD a.I.toNat []).getD 1 .nil), ((e.L.getD a.I.toNat []).getD 2 .nil), ((e.L.getD a.I.toNat []).getD 3 .nil), ((e.L.getD a.I.toNat []).getD 4 .nil), ((e.L.getD a.I.toNat []).getD 5 .nil), ((e.L.getD a.I.toNat []).getD 6 .nil), ((e.L.getD a.I.toNat []).getD 7 .nil), ((e.L.getD a.I.toNat []).getD 8 .nil), ((e.L.getD a.I.toNat []).getD 9 .nil), ((e.L.getD a.I.toNat []).getD 10 .nil), ((e.L.getD a.I.toNat []).getD 11 .nil)]) fun f => (bif (!(!f.B)) then (bif (decide (a.I > 0)) then (bif (decide (0 ≤ (w64 (a.I - 1)))) then (bif (decide ((w64 (a.I - 1)) < (e.L.length : Int))) then (bif (!(!(Op.bytesLess (((e.L.getD (w64 (a.I - 1)).toNat []).getD 0 .nil).S).toList (((e.L.getD a.I.toNat []).getD 0 .nil).S).toList))) then (call1 (s_l2Service [b, c, d, e, ((e.L.getD a.I.toNat []).getD 1 .nil)]) fun g => (bif (!(decide (g.I < 0))) then (bif (!((((e.L.getD a.I.toNat []).getD 11 .nil).S).toList == (bs #[]).toList)) then (call1 (s_l2Berth [b, c, d, e, ((e.L.getD a.I.toNat []).getD 11 .nil)]) fun h => (some (.nrm [a, .b (decide (h.I < 0)), b, c, d, e]))) else (some (.nrm [a, .b false, b, c, d, e]))) else (some (.nrm [a, .b true, b, c, d, e])))) else (some (.nrm [a, .b true, b, c, d, e]))) else none) else none) else (call1 (s_l2Service [b, c, d, e, ((e.L.getD a.I.toNat []).getD 1 .nil)]) fun i => (bif (!(decide (i.I < 0))) then (bif (!((((e.L.getD a.I.toNat []).getD 11 .nil).S).toList == (bs #[]).toList)) then (call1 (s_l2Berth [b, c, d, e, ((e.L.getD a.I.toNat []).getD 11 .nil)]) fun j => (some (.nrm [a, .b (decide (j.I < 0)), b, c, d, e]))) else (some (.nrm [a, .b false, b, c, d, e]))) else (some (.nrm [a, .b true, b, c, d, e]))))) else (some (.nrm [a, .b true, b, c, d, e])))) (ap6 s_PilotValid.d2)) else none) else none) else (some (.brk 2 [b, c, d, e])))
def s_PilotValid.d4 (a b c d e : C) : R := (bif (decide (a.I < (c.L.length : Int))) then (bif (decide (0 ≤ a.I)) then (bif (decide (a.I < (c.L.length : Int))) then (call2 (s_PilotUsed [b, c, d, e, ((c.L.getD a.I.toNat []).getD 0 .nil)]) fun f g => (call1 (s_l2BerthOk [((c.L.getD a.I.toNat []).getD 0 .nil), ((c.L.getD a.I.toNat []).getD 1 .nil), ((c.L.getD a.I.toNat []).getD 2 .nil), ((c.L.getD a.I.toNat []).getD 3 .nil), ((c.L.getD a.I.toNat []).getD 4 .nil), ((c.L.getD a.I.toNat []).getD 5 .nil)]) fun h => (bif (!(!h.B)) then (bif (decide (a.I > 0)) then (bif (decide (0 ≤ (w64 (a.I - 1)))) then (bif (decide ((w64 (a.I - 1)) < (c.L.length : Int))) then (bif (!(!(Op.bytesLess (((c.L.getD (w64 (a.I - 1)).toNat []).getD 0 .nil).S).toList (((c.L.getD a.I.toNat []).getD 0 .nil).S).toList))) then (bif (!(decide (f.I > ((c.L.getD a.I.toNat []).getD 3 .nil).I))) then (bif (!(decide (g.I > ((c.L.getD a.I.toNat []).getD 4 .nil).I))) then (call1 (s_l2Stand [b, c, d, e, ((c.L.getD a.I.toNat []).getD 0 .nil)]) fun i => (bif (decide (i.I > 10)) then (some (.ret [.b false])) else (some (.again [.i (w64 (a.I + 1)), b, c, d, e])))) else (some (.ret [.b false]))) else (some (.ret [.b false]))) else (some (.ret [.b false]))) else none) else none) else (bif (!(decide (f.I > ((c.L.getD a.I.toNat []).getD 3 .nil).I))) then (bif (!(decide (g.I > ((c.L.getD a.I.toNat []).getD 4 .nil).I))) then (call1 (s_l2Stand [b, c, d, e, ((c.L.getD a.I.toNat []).getD 0 .nil)]) fun j => (bif (decide (j.I > 10)) then (some (.ret [.b false])) else (some (.again [.i (w64 (a.I + 1)), b, c, d, e])))) else (some (.ret [.b false]))) else (some (.ret [.b false])))) else (some (.ret [.b false]))))) else none) else none) else (some (.brk 4 [])))
def s_PilotValid.d5 : R := (some (.ret [.b true]))
def s_PilotValid.d6 (a b c d : C) : R := (bindBlk 4 (lim (ap5 s_PilotValid.d4) [.i 0, a, b, c, d]) (fun xs => s_PilotValid.d5))
def s_PilotValid.d7 (a b c d : C) : R := (bindBlk 2 (lim (ap5 s_PilotValid.d3) [.i 0, a, b, c, d]) (ap4 s_PilotValid.d6))
def s_PilotValid.d8 (a b c d : C) : R := (bif (!(decide ((b.L.length : Int) > 12))) then (bif (!(decide ((c.L.length : Int) > 30))) then (bif (decide ((d.L.length : Int) > 60)) then (some (.ret [.b false])) else (bindBlk 0 (lim (ap5 s_PilotValid.d1) [.i 0, a, b, c, d]) (ap4 s_PilotValid.d7))) else (some (.ret [.b false]))) else (some (.ret [.b false])))
def s_PilotValid : List C → Option (List C) := fun xs => finR (ap4 s_PilotValid.d8 xs)
def s_PilotValid_fs : FS := ⟨1, ⟨[(0, z2)], []⟩, ⟨[(0, zo)], []⟩, [], s_PilotValid⟩
theorem s_PilotValid_ok : FSOk Tryz.checked.prog T0 26 s_PilotValid_fs := okOf base0 (fn := Tryz.f26) (c := Tryz.f26.body.getD .skip) s_PilotValid_fs (.seq .leaf (.seq .leaf (.seq (.seq .leaf (.block ⟨[(1, (.pt 1 0))], [(1, z1)]⟩ (.loop ⟨[(1, (.pt 1 0)), (3, zi)], [(1, z1)]⟩ .leaf))) (.seq (.seq .leaf (.block ⟨[(1, (.pt 1 0))], [(1, z1)]⟩ (.loop ⟨[(1, (.pt 1 0)), (5, zi)], [(1, z1)]⟩ (.seq .leaf (.seq (.skip (.seq .leaf (.seq (.join ⟨[(1, (.pt 1 0)), (5, zi), (114, zo)], [(1, z1)]⟩ .leaf) .leaf))) .leaf))))) (.seq (.seq .leaf (.block ⟨[], []⟩ (.loop ⟨[(1, (.pt 1 0)), (7, zi)], [(1, z1)]⟩ .leaf))) .leaf))))) [(47, some 111, s_l2Berth_fs), (58, some 41, s_l1NameOk_fs), (59, some 62, s_l1In_fs), (60, some 78, s_l2CopyOk_fs), (61, some 100, s_l2Service_fs), (62, some 131, s_PilotUsed_fs), (63, some 135, s_l2BerthOk_fs), (64, some 169, s_l2Stand_fs)] (.cons s_l2Berth_ok (.cons s_l1NameOk_ok (.cons s_l1In_ok (.cons s_l2CopyOk_ok (.cons s_l2Service_ok (.cons s_PilotUsed_ok (.cons s_l2BerthOk_ok (.cons s_l2Stand_ok .nil)))))))) (by kernel_rfl) (by kernel_rfl) (by kernel_rfl) (fun xs => by kernel_rfl)
def s_l2Copy.d1 (a b c d e f : C) : R := (bif (decide (b.I < (f.L.length : Int))) then (bif (decide (0 ≤ b.I)) then (bif (decide (b.I < (f.L.length : Int))) then (bif ((((f.L.getD b.I.toNat []).getD 0 .nil).S).toList == a.S.toList) then (some (.ret [b])) else (some (.again [a, .i (w64 (b.I + 1)), c, d, e, f]))) else none) else none) else (some (.brk 0 [])))
def s_l2Copy.d2 : R := (some (.ret [.i (-1)]))
def s_l2Copy.d3 (a b c d e : C) : R := (bindBlk 0 (lim (ap6 s_l2Copy.d1) [e, .i 0, a, b, c, d]) (fun xs => s_l2Copy.d2))
def s_l2Copy : List C → Option (List C) := fun xs => finR (ap5 s_l2Copy.d3 xs)
def s_l2Copy_fs : FS := ⟨2, ⟨[(0, z2), (1, zt)], []⟩, ⟨[(0, zi)], []⟩, [], s_l2Copy⟩
theorem s_l2Copy_ok : FSOk Tryz.checked.prog T0 46 s_l2Copy_fs := okOf base0 (fn := Tryz.f46) (c := Tryz.f46.body.getD .skip) s_l2Copy_fs (.seq .leaf (.seq (.seq .leaf (.block ⟨[], []⟩ (.loop ⟨[(1, zt), (2, (.pt 2 0)), (5, zi)], [(2, z1)]⟩ .leaf))) .leaf)) [] .nil (by kernel_rfl) (by kernel_rfl) (by kernel_rfl) (fun xs => by kernel_rfl)
def s_l6MayGo.d1 (a b c d e f : C) : R := (bif (decide (b.I < (a.L.length : Int))) then (bif (decide (0 ≤ b.I)) then (bif (decide (b.I < (a.L.length : Int))) then (call1 (s_l2Copy [c, d, e, f, ((a.L.getD b.I.toNat []).getD 0 .nil)]) fun g => (bif (!(decide (g.I < 0))) then (bif (decide (0 ≤ g.I)) then (bif (decide (g.I < (f.L.length : Int))) then (bif (!((((f.L.getD g.I.toNat []).getD 11 .nil).S).toList == (bs #[]).toList)) then (bif (decide (b.I > 0)) then (bif (decide (0 ≤ (w64 (b.I - 1)))) then (bif (decide ((w64 (b.I - 1)) < (a.L.length : Int))) then (bif (decide (0 ≤ b.I)) then (bif (decide (b.I < (a.L.length : Int))) then (bif (!(Op.bytesLess (((a.L.getD (w64 (b.I - 1)).toNat []).getD 0 .nil).S).toList (((a.L.getD b.I.toNat []).getD 0 .nil).S).toList)) then (some (.ret [.b false])) else (some (.again [a, .i (w64 (b.I + 1)), c, d, e, f]))) else none) else none) else none) else none) else (some (.again [a, .i (w64 (b.I + 1)), c, d, e, f]))) else (some (.ret [.b false]))) else none) else none) else (some (.ret [.b false])))) else none) else none) else (some (.brk 0 [a, c, d, e, f])))
def s_l6MayGo.d2 (a b c d e f g h i : C) : R := (bif (decide (e.I < (i.L.length : Int))) then (bif (decide (0 ≤ e.I)) then (bif (decide (e.I < (i.L.length : Int))) then (bif (decide (0 ≤ b.I)) then (bif (decide (b.I < (h.L.length : Int))) then (bif ((((i.L.getD e.I.toNat []).getD 1 .nil).S).toList == (((h.L.getD b.I.toNat []).getD 0 .nil).S).toList) then (bif (decide (0 ≤ e.I)) then (bif (decide (e.I < (i.L.length : Int))) then (bif ((((i.L.getD e.I.toNat []).getD 11 .nil).S).toList == (bs #[]).toList) then (some (.again [a, b, .i (w64 (c.I - 1)), d, .i (w64 (e.I + 1)), f, g, h, i])) else (some (.again [a, b, c, d, .i (w64 (e.I + 1)), f, g, h, i]))) else none) else none) else (some (.again [a, b, c, d, .i (w64 (e.I + 1)), f, g, h, i]))) else none) else none) else none) else none) else (some (.brk 4 [a, b, c, d, f, g, h, i])))
def s_l6MayGo.d3 (a b c d e f g h i : C) : R := (bif (decide (e.I < (a.L.length : Int))) then (bif (decide (0 ≤ e.I)) then (bif (decide (e.I < (a.L.length : Int))) then (call1 (s_l2Copy [f, g, h, i, ((a.L.getD e.I.toNat []).getD 0 .nil)]) fun j => (bif (decide (0 ≤ j.I)) then (bif (decide (j.I < (i.L.length : Int))) then (bif (decide (0 ≤ b.I)) then (bif (decide (b.I < (h.L.length : Int))) then (bif ((((i.L.getD j.I.toNat []).getD 1 .nil).S).toList == (((h.L.getD b.I.toNat []).getD 0 .nil).S).toList) then (some (.again [a, b, c, .i (w64 (d.I + 1)), .i (w64 (e.I + 1)), f, g, h, i])) else (some (.again [a, b, c, d, .i (w64 (e.I + 1)), f, g, h, i]))) else none) else none) else none) else none)) else none) else none) else (some (.brk 6 [a, b, c, d, f, g, h, i])))
def s_l6MayGo.d4 (a b c d e f g h : C) : R := (bif (decide (d.I > 0)) then (bif (decide (d.I > c.I)) then (some (.ret [.b false])) else (some (.again [a, .i (w64 (b.I + 1)), e, f, g, h]))) else (some (.again [a, .i (w64 (b.I + 1)), e, f, g, h])))
def s_l6MayGo.d5 (a b c d e f g h : C) : R := (bindBlk 6 (lim (ap9 s_l6MayGo.d3) [a, b, c, d, .i 0, e, f, g, h]) (ap8 s_l6MayGo.d4))
def s_l6MayGo.d6 (a b c d e f : C) : R := (bif (decide (b.I < (e.L.length : Int))) then (bif (decide (0 ≤ b.I)) then (bif (decide (b.I < (e.L.length : Int))) then (bindBlk 4 (lim (ap9 s_l6MayGo.d2) [a, b, ((e.L.getD b.I.toNat []).getD 1 .nil), .i 0, .i 0, c, d, e, f]) (ap8 s_l6MayGo.d5)) else none) else none) else (some (.brk 2 [])))
def s_l6MayGo.d7 : R := (some (.ret [.b true]))
def s_l6MayGo.d8 (a b c d e : C) : R := (bindBlk 2 (lim (ap6 s_l6MayGo.d6) [a, .i 0, b, c, d, e]) (fun xs => s_l6MayGo.d7))
def s_l6MayGo.d9 (a b c d e : C) : R := (bindBlk 0 (lim (ap6 s_l6MayGo.d1) [e, .i 0, a, b, c, d]) (ap5 s_l6MayGo.d8))
def s_l6MayGo : List C → Option (List C) := fun xs => finR (ap5 s_l6MayGo.d9 xs)
def s_l6MayGo_fs : FS := ⟨2, ⟨[(0, z2), (1, (zl 9))], []⟩, ⟨[(0, zo)], []⟩, [], s_l6MayGo⟩
theorem s_l6MayGo_ok : FSOk Tryz.checked.prog T0 38 s_l6MayGo_fs := okOf base0 (fn := Tryz.f38) (c := Tryz.f38.body.getD .skip) s_l6MayGo_fs (.seq .leaf (.seq (.seq .leaf (.block ⟨[(1, (zl 9)), (2, (.pt 2 0))], [(2, z1)]⟩ (.loop ⟨[(1, (zl 9)), (2, (.pt 2 0)), (5, zi)], [(2, z1)]⟩ .leaf))) (.seq (.seq .leaf (.block ⟨[], []⟩ (.loop ⟨[(1, (zl 9)), (2, (.pt 2 0)), (7, zi)], [(2, z1)]⟩ (.seq .leaf (.seq (.skip (.seq .leaf (.seq .leaf (.seq (.seq .leaf (.block ⟨[(1, (zl 9)), (2, (.pt 2 0)), (7, zi), (8, zi), (9, zi)], [(2, z1)]⟩ (.loop ⟨[(1, (zl 9)), (2, (.pt 2 0)), (7, zi), (8, zi), (9, zi), (10, zi)], [(2, z1)]⟩ .leaf))) (.seq (.seq .leaf (.block ⟨[(1, (zl 9)), (2, (.pt 2 0)), (7, zi), (8, zi), (9, zi)], [(2, z1)]⟩ (.loop ⟨[(1, (zl 9)), (2, (.pt 2 0)), (7, zi), (8, zi), (9, zi), (11, zi)], [(2, z1)]⟩ .leaf))) .leaf))))) .leaf))))) .leaf))) [(46, some 23, s_l2Copy_fs), (46, some 108, s_l2Copy_fs)] (.cons s_l2Copy_ok (.cons s_l2Copy_ok .nil)) (by kernel_rfl) (by kernel_rfl) (by kernel_rfl) (fun xs => by kernel_rfl)
def s_PilotMayGo.d1 (a b c d e : C) : R := (call1 (s_PilotValid [a, b, c, d]) fun f => (bif f.B then (call1 (s_l6MayGo [a, b, c, d, e]) fun g => (some (.ret [.b g.B]))) else (some (.ret [.b false]))))
def s_PilotMayGo : List C → Option (List C) := fun xs => finR (ap5 s_PilotMayGo.d1 xs)
def s_PilotMayGo_fs : FS := ⟨2, ⟨[(0, z2), (1, (zl 9))], []⟩, ⟨[(0, zo)], []⟩, [], s_PilotMayGo⟩
theorem s_PilotMayGo_ok : FSOk Tryz.checked.prog T0 11 s_PilotMayGo_fs := okOf base0 (fn := Tryz.f11) (c := Tryz.f11.body.getD .skip) s_PilotMayGo_fs .leaf [(26, some 6, s_PilotValid_fs), (38, some 10, s_l6MayGo_fs)] (.cons s_PilotValid_ok (.cons s_l6MayGo_ok .nil)) (by kernel_rfl) (by kernel_rfl) (by kernel_rfl) (fun xs => by kernel_rfl)
def i_pByte.d1 (a : C) : R := (bif (decide (a.I ≥ 97)) then (bif (!(decide (a.I ≤ 122))) then (bif (decide (a.I ≥ 48)) then (bif (!(decide (a.I ≤ 57))) then (bif (!(a.I == 45)) then (some (.ret [.b (a.I == 95)])) else (some (.ret [.b true]))) else (some (.ret [.b true]))) else (bif (!(a.I == 45)) then (some (.ret [.b (a.I == 95)])) else (some (.ret [.b true])))) else (some (.ret [.b true]))) else (bif (decide (a.I ≥ 48)) then (bif (!(decide (a.I ≤ 57))) then (bif (!(a.I == 45)) then (some (.ret [.b (a.I == 95)])) else (some (.ret [.b true]))) else (some (.ret [.b true]))) else (bif (!(a.I == 45)) then (some (.ret [.b (a.I == 95)])) else (some (.ret [.b true])))))
def i_pByte : List C → Option (List C) := fun xs => finR (ap1 i_pByte.d1 xs)
def i_pByte_fs : FS := ⟨1, ⟨[(0, (.d (.int .u8)))], []⟩, ⟨[(0, zo)], []⟩, [], i_pByte⟩
theorem i_pByte_ok : FSOk Tryz.checked.prog T0 100 i_pByte_fs := okOf base0 (fn := Tryz.f100) (c := Tryz.f100.body.getD .skip) i_pByte_fs .leaf [] .nil (by kernel_rfl) (by kernel_rfl) (by kernel_rfl) (fun xs => by kernel_rfl)
def i_pName.d1 (a b c : C) : R := (bif (decide (c.I < b.I)) then (bif (decide (0 ≤ c.I)) then (bif (decide (c.I < (a.S.size : Int))) then (call1 (i_pByte [.i ((a.S.data.getD c.I.toNat 0).toNat : Int)]) fun d => (bif (!d.B) then (some (.ret [.b false])) else (some (.again [a, b, .i (w64 (c.I + 1))])))) else none) else none) else (some (.brk 0 [])))
def i_pName.d2 : R := (some (.ret [.b true]))
def i_pName.d3 (a : C) : R := (bif (!(decide ((a.S.size : Int) < 1))) then (bif (decide ((a.S.size : Int) > 20)) then (some (.ret [.b false])) else (bindBlk 0 (lim (ap3 i_pName.d1) [a, .i (a.S.size : Int), .i 0]) (fun xs => i_pName.d2))) else (some (.ret [.b false])))
def i_pName : List C → Option (List C) := fun xs => finR (ap1 i_pName.d3 xs)
def i_pName_fs : FS := ⟨1, ⟨[(0, zt)], []⟩, ⟨[(0, zo)], []⟩, [], i_pName⟩
theorem i_pName_ok : FSOk Tryz.checked.prog T0 66 i_pName_fs := okOf base0 (fn := Tryz.f66) (c := Tryz.f66.body.getD .skip) i_pName_fs (.seq .leaf (.seq .leaf (.seq (.seq .leaf (.block ⟨[], []⟩ (.loop ⟨[(0, zt), (13, zi), (14, zi)], []⟩ .leaf))) .leaf))) [(100, some 20, i_pByte_fs)] (.cons i_pByte_ok .nil) (by kernel_rfl) (by kernel_rfl) (by kernel_rfl) (fun xs => by kernel_rfl)
def i_within.d1 (a b c : C) : R := (bif (decide (a.I ≥ b.I)) then (some (.ret [.b (decide (a.I ≤ c.I))])) else (some (.ret [.b false])))
def i_within : List C → Option (List C) := fun xs => finR (ap3 i_within.d1 xs)
def i_within_fs : FS := ⟨3, ⟨[(0, zi), (1, zi), (2, zi)], []⟩, ⟨[(0, zo)], []⟩, [], i_within⟩
theorem i_within_ok : FSOk Tryz.checked.prog T0 67 i_within_fs := okOf base0 (fn := Tryz.f67) (c := Tryz.f67.body.getD .skip) i_within_fs .leaf [] .nil (by kernel_rfl) (by kernel_rfl) (by kernel_rfl) (fun xs => by kernel_rfl)
def internal_stringslite_IndexByte : List C → Option (List C) := ibF
def internal_stringslite_IndexByte_fs : FS := ⟨2, ⟨[(0, .d .str), (1, .d (.int .u8))], []⟩, ⟨[(0, .d (.int .i64))], []⟩, [], internal_stringslite_IndexByte⟩
theorem internal_stringslite_IndexByte_ok : FSOk Tryz.checked.prog T0 162 internal_stringslite_IndexByte_fs := ib_ok
def internal_stringslite_Index.d1 (a b c d : C) : R := (bif d.B then (some (.ret [.i 0])) else (bif (c.I == 1) then (bif (decide (0 < (b.S.size : Int))) then (call1 (internal_stringslite_IndexByte [a, .i ((b.S.data.getD 0 0).toNat : Int)]) fun e => (some (.ret [e]))) else none) else (bif (decide (c.I ≥ (a.S.size : Int))) then (some (.ret [.i (-1)])) else none)))
def internal_stringslite_Index.d2 (a b : C) : R := (bindNrm (bif (!((b.S.size : Int) == 0)) then (some (.nrm [a, b, .i (b.S.size : Int), .b (b.S.toList == a.S.toList)])) else (some (.nrm [a, b, .i (b.S.size : Int), .b true]))) (ap4 internal_stringslite_Index.d1))
def internal_stringslite_Index : List C → Option (List C) := fun xs => finR (ap2 internal_stringslite_Index.d2 xs)
def internal_stringslite_Index_fs : FS := ⟨2, ⟨[(0, zt), (1, zt)], []⟩, ⟨[(0, zi)], []⟩, [], internal_stringslite_Index⟩
theorem internal_stringslite_Index_ok : FSOk Tryz.checked.prog T0 152 internal_stringslite_Index_fs := okOf base0 (fn := Tryz.f152) (c := Tryz.f152.body.getD .skip) internal_stringslite_Index_fs (.seq .leaf (.seq .leaf (.seq (.skip (.seq (.join ⟨[(0, zt), (1, zt), (5, zi), (16, zo)], []⟩ .leaf) .leaf)) .leaf))) [(162, some 30, internal_stringslite_IndexByte_fs)] (.cons internal_stringslite_IndexByte_ok .nil) (by kernel_rfl) (by kernel_rfl) (by kernel_rfl) (fun xs => by kernel_rfl)
def internal_stringslite_Cut.d1 (a b : C) : R := (call1 (internal_stringslite_Index [a, b]) fun c => (bif (decide (c.I ≥ 0)) then (bif (decide (0 ≤ c.I)) then (bif (decide (c.I ≤ (a.S.size : Int))) then (bif (decide (0 ≤ (w64 (c.I + (b.S.size : Int))))) then (bif (decide ((w64 (c.I + (b.S.size : Int))) ≤ (a.S.size : Int))) then (bif (decide ((a.S.size : Int) ≤ (a.S.size : Int))) then (some (.ret [.s (a.S.extract 0 c.I.toNat), .s (a.S.extract (w64 (c.I + (b.S.size : Int))).toNat (a.S.size : Int).toNat), .b true])) else none) else none) else none) else none) else none) else (some (.ret [a, .s (bs #[]), .b false]))))
def internal_stringslite_Cut : List C → Option (List C) := fun xs => finR (ap2 internal_stringslite_Cut.d1 xs)
def internal_stringslite_Cut_fs : FS := ⟨2, ⟨[(0, zt), (1, zt)], []⟩, ⟨[(0, (.tu [zt, zt, zo]))], []⟩, [], internal_stringslite_Cut⟩
theorem internal_stringslite_Cut_ok : FSOk Tryz.checked.prog T0 135 internal_stringslite_Cut_fs := okOf base0 (fn := Tryz.f135) (c := Tryz.f135.body.getD .skip) internal_stringslite_Cut_fs .leaf [(152, some 10, internal_stringslite_Index_fs)] (.cons internal_stringslite_Index_ok .nil) (by kernel_rfl) (by kernel_rfl) (by kernel_rfl) (fun xs => by kernel_rfl)
def strings_Cut.d1 (a b : C) : R := (call3 (internal_stringslite_Cut [a, b]) fun c d e => (some (.ret [c, d, .b e.B])))
def strings_Cut : List C → Option (List C) := fun xs => finR (ap2 strings_Cut.d1 xs)
def strings_Cut_fs : FS := ⟨2, ⟨[(0, zt), (1, zt)], []⟩, ⟨[(0, (.tu [zt, zt, zo]))], []⟩, [], strings_Cut⟩
theorem strings_Cut_ok : FSOk Tryz.checked.prog T0 117 strings_Cut_fs := okOf base0 (fn := Tryz.f117) (c := Tryz.f117.body.getD .skip) strings_Cut_fs .leaf [(135, some 9, internal_stringslite_Cut_fs)] (.cons internal_stringslite_Cut_ok .nil) (by kernel_rfl) (by kernel_rfl) (by kernel_rfl) (fun xs => by kernel_rfl)
def i_pMark.d1 (a : C) : R := (call3 (strings_Cut [a, .s (bs #[61])]) fun b c d => (call1 (i_pName [b]) fun e => (bif e.B then (bif (!(!d.B)) then (call1 (i_pName [c]) fun f => (some (.ret [b, c, .b f.B]))) else (some (.ret [b, c, .b true]))) else (some (.ret [b, c, .b false])))))
def i_pMark : List C → Option (List C) := fun xs => finR (ap1 i_pMark.d1 xs)
def i_pMark_fs : FS := ⟨1, ⟨[(0, zt)], []⟩, ⟨[(0, (.tu [zt, zt, zo]))], []⟩, [], i_pMark⟩
theorem i_pMark_ok : FSOk Tryz.checked.prog T0 99 i_pMark_fs := okOf base0 (fn := Tryz.f99) (c := Tryz.f99.body.getD .skip) i_pMark_fs .leaf [(66, some 17, i_pName_fs), (66, some 23, i_pName_fs), (117, some 10, strings_Cut_fs)] (.cons i_pName_ok (.cons i_pName_ok (.cons strings_Cut_ok .nil))) (by kernel_rfl) (by kernel_rfl) (by kernel_rfl) (fun xs => by kernel_rfl)
def i_pBerthOk.d1 (a b c d e f g h i j : C) : R := (bif (decide (c.I < b.I)) then (bif (decide (0 ≤ c.I)) then (bif (decide (c.I < (a.L.length : Int))) then (call3 (i_pMark [((a.L.getD c.I.toNat []).getD 0 .nil)]) fun k l m => (bif (!(!m.B)) then (bif (!((mget (.b false) k.S j.L).B)) then (bif (decide (c.I > 0)) then (bif (decide (0 ≤ (w64 (c.I - 1)))) then (bif (decide ((w64 (c.I - 1)) < (f.L.length : Int))) then (bif ((Op.bytesLess (((a.L.getD c.I.toNat []).getD 0 .nil).S).toList (((f.L.getD (w64 (c.I - 1)).toNat []).getD 0 .nil).S).toList) || ((((a.L.getD c.I.toNat []).getD 0 .nil).S).toList == (((f.L.getD (w64 (c.I - 1)).toNat []).getD 0 .nil).S).toList)) then (some (.ret [.b false])) else (some (.again [a, b, .i (w64 (c.I + 1)), d, e, f, g, h, i, .l (mset k.S (.b true) j.L)]))) else none) else none) else (some (.again [a, b, .i (w64 (c.I + 1)), d, e, f, g, h, i, .l (mset k.S (.b true) j.L)]))) else (some (.ret [.b false]))) else (some (.ret [.b false])))) else none) else none) else (some (.brk 0 [])))
def i_pBerthOk.d2 : R := (some (.ret [.b true]))
def i_pBerthOk.d3 (a b c d e f : C) : R := (call1 (i_pName [a]) fun g => (bif (!(!g.B)) then (call1 (i_pName [b]) fun h => (bif (!(!h.B)) then (bif (!(decide ((c.L.length : Int) > 10))) then (call1 (i_within [d, .i 0, .i 1000]) fun i => (bif (!(!i.B)) then (call1 (i_within [e, .i 0, .i 1000]) fun j => (bif (!j.B) then (some (.ret [.b false])) else (bindBlk 0 (lim (ap10 i_pBerthOk.d1) [c, .i (c.L.length : Int), .i 0, a, b, c, d, e, f, .l nils]) (fun xs => i_pBerthOk.d2)))) else (some (.ret [.b false])))) else (some (.ret [.b false]))) else (some (.ret [.b false])))) else (some (.ret [.b false]))))
def i_pBerthOk : List C → Option (List C) := fun xs => finR (ap6 i_pBerthOk.d3 xs)
def i_pBerthOk_fs : FS := ⟨1, ⟨[(0, z6)], []⟩, ⟨[(0, zo)], []⟩, [], i_pBerthOk⟩
theorem i_pBerthOk_ok : FSOk Tryz.checked.prog T0 65 i_pBerthOk_fs := okOf base0 (fn := Tryz.f65) (c := Tryz.f65.body.getD .skip) i_pBerthOk_fs (.seq .leaf (.seq .leaf (.seq .leaf (.seq (.seq .leaf (.block ⟨[], []⟩ (.loop ⟨[(1, (.pt 1 0)), (3, (.mp 37)), (39, (zl 9)), (40, zi), (41, zi)], [(1, z3), (37, .mp 4)]⟩ .leaf))) .leaf)))) [(66, some 11, i_pName_fs), (66, some 16, i_pName_fs), (67, some 28, i_within_fs), (67, some 34, i_within_fs), (99, some 48, i_pMark_fs)] (.cons i_pName_ok (.cons i_pName_ok (.cons i_within_ok (.cons i_within_ok (.cons i_pMark_ok .nil))))) (by kernel_rfl) (by kernel_rfl) (by kernel_rfl) (fun xs => by kernel_rfl)
def strings_trimRightByte.d1 (a b : C) : R := (bif (decide ((a.S.size : Int) > 0)) then (bif (decide (0 ≤ (w64 ((a.S.size : Int) - 1)))) then (bif (decide ((w64 ((a.S.size : Int) - 1)) < (a.S.size : Int))) then (bif (((a.S.data.getD (w64 ((a.S.size : Int) - 1)).toNat 0).toNat : Int) == b.I) then (bif (decide (0 ≤ (w64 ((a.S.size : Int) - 1)))) then (bif (decide ((w64 ((a.S.size : Int) - 1)) ≤ (a.S.size : Int))) then (some (.again [.s (a.S.extract 0 (w64 ((a.S.size : Int) - 1)).toNat), b])) else none) else none) else (some (.brk 0 [a]))) else none) else none) else (some (.brk 0 [a])))
def strings_trimRightByte.d2 (a : C) : R := (some (.ret [a]))
def strings_trimRightByte.d3 (a b : C) : R := (bindBlk 0 (lim (ap2 strings_trimRightByte.d1) [a, b]) (ap1 strings_trimRightByte.d2))
def strings_trimRightByte : List C → Option (List C) := fun xs => finR (ap2 strings_trimRightByte.d3 xs)
def strings_trimRightByte_fs : FS := ⟨2, ⟨[(0, zt), (1, (.d (.int .u8)))], []⟩, ⟨[(0, zt)], []⟩, [], strings_trimRightByte⟩
theorem strings_trimRightByte_ok : FSOk Tryz.checked.prog T0 137 strings_trimRightByte_fs := okOf base0 (fn := Tryz.f137) (c := Tryz.f137.body.getD .skip) strings_trimRightByte_fs (.seq .leaf (.seq (.block ⟨[(0, zt)], []⟩ (.loop ⟨[(0, zt), (1, (.d (.int .u8)))], []⟩ .leaf)) .leaf)) [] .nil (by kernel_rfl) (by kernel_rfl) (by kernel_rfl) (fun xs => by kernel_rfl)
def strings_trimLeftByte.d1 (a b : C) : R := (bif (decide ((a.S.size : Int) > 0)) then (bif (decide (0 < (a.S.size : Int))) then (bif (((a.S.data.getD 0 0).toNat : Int) == b.I) then (bif (decide (1 ≤ (a.S.size : Int))) then (bif (decide ((a.S.size : Int) ≤ (a.S.size : Int))) then (some (.again [.s (a.S.extract 1 (a.S.size : Int).toNat), b])) else none) else none) else (some (.brk 0 [a]))) else none) else (some (.brk 0 [a])))
def strings_trimLeftByte.d2 (a : C) : R := (some (.ret [a]))
def strings_trimLeftByte.d3 (a b : C) : R := (bindBlk 0 (lim (ap2 strings_trimLeftByte.d1) [a, b]) (ap1 strings_trimLeftByte.d2))
def strings_trimLeftByte : List C → Option (List C) := fun xs => finR (ap2 strings_trimLeftByte.d3 xs)
def strings_trimLeftByte_fs : FS := ⟨2, ⟨[(0, zt), (1, (.d (.int .u8)))], []⟩, ⟨[(0, zt)], []⟩, [], strings_trimLeftByte⟩
theorem strings_trimLeftByte_ok : FSOk Tryz.checked.prog T0 136 strings_trimLeftByte_fs := okOf base0 (fn := Tryz.f136) (c := Tryz.f136.body.getD .skip) strings_trimLeftByte_fs (.seq .leaf (.seq (.block ⟨[(0, zt)], []⟩ (.loop ⟨[(0, zt), (1, (.d (.int .u8)))], []⟩ .leaf)) .leaf)) [] .nil (by kernel_rfl) (by kernel_rfl) (by kernel_rfl) (fun xs => by kernel_rfl)
def strings_makeASCIISet.d1 (a : C) : R := none
def strings_makeASCIISet : List C → Option (List C) := fun xs => finR (ap1 strings_makeASCIISet.d1 xs)
def strings_makeASCIISet_fs : FS := ⟨1, ⟨[(0, zt)], []⟩, ⟨[], []⟩, [], strings_makeASCIISet⟩
theorem strings_makeASCIISet_ok : FSOk Tryz.checked.prog T0 138 strings_makeASCIISet_fs := okOf base0 (fn := Tryz.f138) (c := Tryz.f138.body.getD .skip) strings_makeASCIISet_fs .leaf [] .nil (by kernel_rfl) (by kernel_rfl) (by kernel_rfl) (fun xs => by kernel_rfl)
def strings_Trim.d1 (a b : C) : R := (bindF (strings_makeASCIISet [b]) fun _ => none)
def strings_Trim.d2 (a b : C) : R := (bif (!(a.S.toList == (bs #[]).toList)) then (bif (b.S.toList == (bs #[]).toList) then (some (.ret [a])) else (bindNrm (bif ((b.S.size : Int) == 1) then (bif (decide (0 < (b.S.size : Int))) then (bif (decide (((b.S.data.getD 0 0).toNat : Int) < 128)) then (bif (decide (0 < (b.S.size : Int))) then (call1 (strings_trimRightByte [a, .i ((b.S.data.getD 0 0).toNat : Int)]) fun c => (bif (decide (0 < (b.S.size : Int))) then (call1 (strings_trimLeftByte [c, .i ((b.S.data.getD 0 0).toNat : Int)]) fun d => (some (.ret [d]))) else none)) else none) else (some (.nrm [a, b]))) else none) else (some (.nrm [a, b]))) (ap2 strings_Trim.d1))) else (some (.ret [a])))
def strings_Trim : List C → Option (List C) := fun xs => finR (ap2 strings_Trim.d2 xs)
def strings_Trim_fs : FS := ⟨2, ⟨[(0, zt), (1, zt)], []⟩, ⟨[(0, zt)], []⟩, [], strings_Trim⟩
theorem strings_Trim_ok : FSOk Tryz.checked.prog T0 118 strings_Trim_fs := okOf base0 (fn := Tryz.f118) (c := Tryz.f118.body.getD .skip) strings_Trim_fs (.seq .leaf (.seq .leaf (.seq (.join ⟨[(0, zt), (1, zt)], []⟩ .leaf) .leaf))) [(136, some 28, strings_trimLeftByte_fs), (137, some 25, strings_trimRightByte_fs), (138, some 31, strings_makeASCIISet_fs)] (.cons strings_trimLeftByte_ok (.cons strings_trimRightByte_ok (.cons strings_makeASCIISet_ok .nil))) (by kernel_rfl) (by kernel_rfl) (by kernel_rfl) (fun xs => by kernel_rfl)
def i_pParser_gap.d1 (a b c : C) : R := (bif (decide (b.I < (a.S.size : Int))) then (bif (decide (0 ≤ b.I)) then (bif (decide (b.I < (a.S.size : Int))) then (bif (((a.S.data.getD b.I.toNat 0).toNat : Int) == 32) then (some (.again [a, .i (w64 (b.I + 1)), c])) else (some (.brk 0 [a, b, c]))) else none) else none) else (some (.brk 0 [a, b, c])))
def i_pParser_gap.d2 (a b c : C) : R := (some (.ret [a, b, c]))
def i_pParser_gap.d3 (a b c : C) : R := (bindBlk 0 (lim (ap3 i_pParser_gap.d1) [a, b, c]) (ap3 i_pParser_gap.d2))
def i_pParser_gap : List C → Option (List C) := fun xs => finR (ap3 i_pParser_gap.d3 xs)
def i_pParser_gap_fs : FS := ⟨1, ⟨[(0, (.pt 2000 0))], [(2000, .var 154 [zt, zi, zo])]⟩, ⟨[(0, (.tu []))], [(2000, .var 154 [zt, zi, zo])]⟩, [2000], i_pParser_gap⟩
theorem i_pParser_gap_ok : FSOk Tryz.checked.prog T0 120 i_pParser_gap_fs := okOf base0 (fn := Tryz.f120) (c := Tryz.f120.body.getD .skip) i_pParser_gap_fs (.block ⟨[], [(2000, .var 154 [zt, zi, zo])]⟩ (.loop ⟨[(0, (.pt 2000 0))], [(2000, .var 154 [zt, zi, zo])]⟩ .leaf)) [] .nil (by kernel_rfl) (by kernel_rfl) (by kernel_rfl) (fun xs => by kernel_rfl)
def i_pParser_take.d1 (a b c d : C) : R := (call3 (i_pParser_gap [b, c, d]) fun e f g => (bif (decide (f.I < (e.S.size : Int))) then (bif (decide (0 ≤ f.I)) then (bif (decide (f.I < (e.S.size : Int))) then (bif (((e.S.data.getD f.I.toNat 0).toNat : Int) == a.I) then (some (.ret [.b true, e, .i (w64 (f.I + 1)), g])) else (some (.ret [.b false, e, f, g]))) else none) else none) else (some (.ret [.b false, e, f, g]))))
def i_pParser_take : List C → Option (List C) := fun xs => finR (ap4 i_pParser_take.d1 xs)
def i_pParser_take_fs : FS := ⟨2, ⟨[(0, (.pt 2000 0)), (1, (.d (.int .u8)))], [(2000, .var 154 [zt, zi, zo])]⟩, ⟨[(0, zo)], [(2000, .var 154 [zt, zi, zo])]⟩, [2000], i_pParser_take⟩
theorem i_pParser_take_ok : FSOk Tryz.checked.prog T0 144 i_pParser_take_fs := okOf base0 (fn := Tryz.f144) (c := Tryz.f144.body.getD .skip) i_pParser_take_fs .leaf [(120, some 6, i_pParser_gap_fs)] (.cons i_pParser_gap_ok .nil) (by kernel_rfl) (by kernel_rfl) (by kernel_rfl) (fun xs => by kernel_rfl)
def i_pParser_name.d1 (a b c d : C) : R := (bif (decide (c.I < (b.S.size : Int))) then (bif (decide (0 ≤ c.I)) then (bif (decide (c.I < (b.S.size : Int))) then (call1 (i_pByte [.i ((b.S.data.getD c.I.toNat 0).toNat : Int)]) fun e => (bif e.B then (some (.again [a, b, .i (w64 (c.I + 1)), d])) else (some (.brk 0 [a, b, c, d])))) else none) else none) else (some (.brk 0 [a, b, c, d])))
def i_pParser_name.d2 (a b c d : C) : R := (bif (decide (0 ≤ a.I)) then (bif (decide (a.I ≤ c.I)) then (bif (decide (c.I ≤ (b.S.size : Int))) then (call1 (i_pName [.s (b.S.extract a.I.toNat c.I.toNat)]) fun e => (bif (!e.B) then (bif (decide (0 ≤ a.I)) then (bif (decide (a.I ≤ c.I)) then (bif (decide (c.I ≤ (b.S.size : Int))) then (some (.ret [.s (b.S.extract a.I.toNat c.I.toNat), b, c, .b false])) else none) else none) else none) else (bif (decide (0 ≤ a.I)) then (bif (decide (a.I ≤ c.I)) then (bif (decide (c.I ≤ (b.S.size : Int))) then (some (.ret [.s (b.S.extract a.I.toNat c.I.toNat), b, c, d])) else none) else none) else none))) else none) else none) else none)
def i_pParser_name.d3 (a b c : C) : R := (call3 (i_pParser_gap [a, b, c]) fun d e f => (bindBlk 0 (lim (ap4 i_pParser_name.d1) [e, d, e, f]) (ap4 i_pParser_name.d2)))
def i_pParser_name : List C → Option (List C) := fun xs => finR (ap3 i_pParser_name.d3 xs)
def i_pParser_name_fs : FS := ⟨1, ⟨[(0, (.pt 2000 0))], [(2000, .var 154 [zt, zi, zo])]⟩, ⟨[(0, zt)], [(2000, .var 154 [zt, zi, zo])]⟩, [2000], i_pParser_name⟩
theorem i_pParser_name_ok : FSOk Tryz.checked.prog T0 169 i_pParser_name_fs := okOf base0 (fn := Tryz.f169) (c := Tryz.f169.body.getD .skip) i_pParser_name_fs (.seq .leaf (.seq .leaf (.seq .leaf (.seq (.block ⟨[(0, (.pt 2000 0)), (3, zi)], [(2000, .var 154 [zt, zi, zo])]⟩ (.loop ⟨[(0, (.pt 2000 0)), (3, zi)], [(2000, .var 154 [zt, zi, zo])]⟩ .leaf)) .leaf)))) [(66, some 49, i_pName_fs), (100, some 30, i_pByte_fs), (120, some 5, i_pParser_gap_fs)] (.cons i_pName_ok (.cons i_pByte_ok (.cons i_pParser_gap_ok .nil))) (by kernel_rfl) (by kernel_rfl) (by kernel_rfl) (fun xs => by kernel_rfl)
end
end Go.Ev
namespace Go.Ev
open Go.Proofs
noncomputable section
def i_pParser_or.d1 (G0 G1 G2 : List C → Option (List C)) (a b c d : C) : R := (bif d.B then (call4 (i_pParser_take [.i 124, b, c, d]) fun e f g h => (bif e.B then (call4 (G1 [f, g, h]) fun i j k l => (some (.again [.p [.i 5, .s (bs #[]), .s (bs #[]), .l (rows [[a], [i]])], j, k, l]))) else (some (.brk 0 [a, f, g, h])))) else (some (.brk 0 [a, b, c, d])))
def i_pParser_or.d2 (G0 G1 G2 : List C → Option (List C)) (a b c d : C) : R := (some (.ret [a, b, c, d]))
def i_pParser_or.d3 (G0 G1 G2 : List C → Option (List C)) (a b c : C) : R := (call4 (G1 [a, b, c]) fun d e f g => (bindBlk 0 (lim (ap4 (i_pParser_or.d1 G0 G1 G2)) [d, e, f, g]) (ap4 (i_pParser_or.d2 G0 G1 G2))))
def i_pParser_or.step (G0 G1 G2 : List C → Option (List C)) : List C → Option (List C) := fun xs => finR (ap3 (i_pParser_or.d3 G0 G1 G2) xs)
def i_pParser_or_fs (G : List C → Option (List C)) : FS := ⟨1, ⟨[(0, (.pt 2000 0))], [(2000, .var 154 [(.d .str), (.d (.int .i64)), (.d .bool)])]⟩, ⟨[(0, (.d (.pt 151)))], [(2000, .var 154 [(.d .str), (.d (.int .i64)), (.d .bool)])]⟩, [2000], G⟩
def i_pParser_and.d1 (G0 G1 G2 : List C → Option (List C)) (a b c d : C) : R := (bif d.B then (call4 (i_pParser_take [.i 38, b, c, d]) fun e f g h => (bif e.B then (call4 (G2 [f, g, h]) fun i j k l => (some (.again [.p [.i 4, .s (bs #[]), .s (bs #[]), .l (rows [[a], [i]])], j, k, l]))) else (some (.brk 0 [a, f, g, h])))) else (some (.brk 0 [a, b, c, d])))
def i_pParser_and.d2 (G0 G1 G2 : List C → Option (List C)) (a b c d : C) : R := (some (.ret [a, b, c, d]))
def i_pParser_and.d3 (G0 G1 G2 : List C → Option (List C)) (a b c : C) : R := (call4 (G2 [a, b, c]) fun d e f g => (bindBlk 0 (lim (ap4 (i_pParser_and.d1 G0 G1 G2)) [d, e, f, g]) (ap4 (i_pParser_and.d2 G0 G1 G2))))
def i_pParser_and.step (G0 G1 G2 : List C → Option (List C)) : List C → Option (List C) := fun xs => finR (ap3 (i_pParser_and.d3 G0 G1 G2) xs)
def i_pParser_and_fs (G : List C → Option (List C)) : FS := ⟨1, ⟨[(0, (.pt 2000 0))], [(2000, .var 154 [(.d .str), (.d (.int .i64)), (.d .bool)])]⟩, ⟨[(0, (.d (.pt 151)))], [(2000, .var 154 [(.d .str), (.d (.int .i64)), (.d .bool)])]⟩, [2000], G⟩
def i_pParser_not.d1 (G0 G1 G2 : List C → Option (List C)) (a b c : C) : R := (bif (!c.B) then (some (.ret [.p [.i 0, .s (bs #[]), .s (bs #[]), .l nils], a, b, c])) else (call4 (i_pParser_take [.i 33, a, b, c]) fun d e f g => (bif d.B then (call4 (G2 [e, f, g]) fun h i j k => (some (.ret [.p [.i 3, .s (bs #[]), .s (bs #[]), .l (rows [[h]])], i, j, k]))) else (call4 (i_pParser_take [.i 40, e, f, g]) fun l m n o => (bif l.B then (call4 (G0 [m, n, o]) fun p q r s => (bif s.B then (call4 (i_pParser_take [.i 41, q, r, s]) fun t u v w => (some (.ret [p, u, v, .b t.B]))) else (some (.ret [p, q, r, .b false])))) else (call4 (i_pParser_name [m, n, o]) fun x y z a0 => (bif a0.B then (call4 (i_pParser_take [.i 61, y, z, a0]) fun a1 a2 a3 a4 => (bif a1.B then (call4 (i_pParser_name [a2, a3, a4]) fun a5 a6 a7 a8 => (some (.ret [.p [.i 2, x, a5, .l nils], a6, a7, a8]))) else (some (.ret [.p [.i 1, x, .s (bs #[]), .l nils], a2, a3, a4])))) else (some (.ret [.p [.i 1, x, .s (bs #[]), .l nils], y, z, a0])))))))))
def i_pParser_not.step (G0 G1 G2 : List C → Option (List C)) : List C → Option (List C) := fun xs => finR (ap3 (i_pParser_not.d1 G0 G1 G2) xs)
def i_pParser_not_fs (G : List C → Option (List C)) : FS := ⟨1, ⟨[(0, (.pt 2000 0))], [(2000, .var 154 [(.d .str), (.d (.int .i64)), (.d .bool)])]⟩, ⟨[(0, (.d (.pt 151)))], [(2000, .var 154 [(.d .str), (.d (.int .i64)), (.d .bool)])]⟩, [2000], G⟩
theorem i_pParser_or_st {G0 G1 G2 : List C → Option (List C)} (h0 : FSOk Tryz.checked.prog T0 119 (i_pParser_or_fs G0)) (h1 : FSOk Tryz.checked.prog T0 143 (i_pParser_and_fs G1)) (h2 : FSOk Tryz.checked.prog T0 157 (i_pParser_not_fs G2)) : FSOk Tryz.checked.prog T0 119 (i_pParser_or_fs (i_pParser_or.step G0 G1 G2)) := okOf base0 (fn := Tryz.f119) (c := Tryz.f119.body.getD .skip) (i_pParser_or_fs (i_pParser_or.step G0 G1 G2)) (.seq .leaf (.seq .leaf (.seq (.block ⟨[(3, (.d (.pt 151)))], [(2000, .var 154 [(.d .str), (.d (.int .i64)), (.d .bool)])]⟩ (.loop ⟨[(0, (.pt 2000 0)), (3, (.d (.pt 151)))], [(2000, .var 154 [(.d .str), (.d (.int .i64)), (.d .bool)])]⟩ .leaf)) .leaf))) [(143, some 5, (i_pParser_and_fs G1)), (143, some 16, (i_pParser_and_fs G1)), (144, some 12, i_pParser_take_fs)] (.cons h1 (.cons h1 (.cons i_pParser_take_ok .nil))) (by kernel_rfl) (by kernel_rfl) (by kernel_rfl) (fun xs => by kernel_rfl)
theorem i_pParser_and_st {G0 G1 G2 : List C → Option (List C)} (h0 : FSOk Tryz.checked.prog T0 119 (i_pParser_or_fs G0)) (h1 : FSOk Tryz.checked.prog T0 143 (i_pParser_and_fs G1)) (h2 : FSOk Tryz.checked.prog T0 157 (i_pParser_not_fs G2)) : FSOk Tryz.checked.prog T0 143 (i_pParser_and_fs (i_pParser_and.step G0 G1 G2)) := okOf base0 (fn := Tryz.f143) (c := Tryz.f143.body.getD .skip) (i_pParser_and_fs (i_pParser_and.step G0 G1 G2)) (.seq .leaf (.seq .leaf (.seq (.block ⟨[(3, (.d (.pt 151)))], [(2000, .var 154 [(.d .str), (.d (.int .i64)), (.d .bool)])]⟩ (.loop ⟨[(0, (.pt 2000 0)), (3, (.d (.pt 151)))], [(2000, .var 154 [(.d .str), (.d (.int .i64)), (.d .bool)])]⟩ .leaf)) .leaf))) [(144, some 12, i_pParser_take_fs), (157, some 5, (i_pParser_not_fs G2)), (157, some 16, (i_pParser_not_fs G2))] (.cons i_pParser_take_ok (.cons h2 (.cons h2 .nil))) (by kernel_rfl) (by kernel_rfl) (by kernel_rfl) (fun xs => by kernel_rfl)
theorem i_pParser_not_st {G0 G1 G2 : List C → Option (List C)} (h0 : FSOk Tryz.checked.prog T0 119 (i_pParser_or_fs G0)) (h1 : FSOk Tryz.checked.prog T0 143 (i_pParser_and_fs G1)) (h2 : FSOk Tryz.checked.prog T0 157 (i_pParser_not_fs G2)) : FSOk Tryz.checked.prog T0 157 (i_pParser_not_fs (i_pParser_not.step G0 G1 G2)) := okOf base0 (fn := Tryz.f157) (c := Tryz.f157.body.getD .skip) (i_pParser_not_fs (i_pParser_not.step G0 G1 G2)) (.seq .leaf (.seq (.skip (.seq .leaf (.cond (.seq .leaf (.frz [12] .leaf)) (.seq .leaf (.cond (.seq .leaf (.frz [18, 20] .leaf)) .leaf))))) (.seq .leaf (.seq .leaf (.seq .leaf (.frz [41] .leaf)))))) [(119, some 25, (i_pParser_or_fs G0)), (144, some 15, i_pParser_take_fs), (144, some 23, i_pParser_take_fs), (144, some 33, i_pParser_take_fs), (144, some 48, i_pParser_take_fs), (157, some 17, (i_pParser_not_fs G2)), (169, some 39, i_pParser_name_fs), (169, some 53, i_pParser_name_fs)] (.cons h0 (.cons i_pParser_take_ok (.cons i_pParser_take_ok (.cons i_pParser_take_ok (.cons i_pParser_take_ok (.cons h2 (.cons i_pParser_name_ok (.cons i_pParser_name_ok .nil)))))))) (by kernel_rfl) (by kernel_rfl) (by kernel_rfl) (fun xs => by kernel_rfl)
def i_pParser_or.g : Nat → Nat → List C → Option (List C)
  | 0, _ => fun _ => none
  | k + 1, 0 => i_pParser_or.step (i_pParser_or.g k 0) (i_pParser_or.g k 1) (i_pParser_or.g k 2)
  | k + 1, 1 => i_pParser_and.step (i_pParser_or.g k 0) (i_pParser_or.g k 1) (i_pParser_or.g k 2)
  | k + 1, 2 => i_pParser_not.step (i_pParser_or.g k 0) (i_pParser_or.g k 1) (i_pParser_or.g k 2)
  | _, _ => fun _ => none
theorem i_pParser_or_rec : ∀ k : Nat, FSOk Tryz.checked.prog T0 119 (i_pParser_or_fs (i_pParser_or.g k 0)) ∧ FSOk Tryz.checked.prog T0 143 (i_pParser_and_fs (i_pParser_or.g k 1)) ∧ FSOk Tryz.checked.prog T0 157 (i_pParser_not_fs (i_pParser_or.g k 2))
  | 0 => ⟨noneOk (fn := Tryz.f119) (c := Tryz.f119.body.getD .skip) (1) (⟨[(0, (.pt 2000 0))], [(2000, .var 154 [(.d .str), (.d (.int .i64)), (.d .bool)])]⟩) (⟨[(0, (.d (.pt 151)))], [(2000, .var 154 [(.d .str), (.d (.int .i64)), (.d .bool)])]⟩) [2000] (by kernel_rfl) (by kernel_rfl) (by kernel_rfl), noneOk (fn := Tryz.f143) (c := Tryz.f143.body.getD .skip) (1) (⟨[(0, (.pt 2000 0))], [(2000, .var 154 [(.d .str), (.d (.int .i64)), (.d .bool)])]⟩) (⟨[(0, (.d (.pt 151)))], [(2000, .var 154 [(.d .str), (.d (.int .i64)), (.d .bool)])]⟩) [2000] (by kernel_rfl) (by kernel_rfl) (by kernel_rfl), noneOk (fn := Tryz.f157) (c := Tryz.f157.body.getD .skip) (1) (⟨[(0, (.pt 2000 0))], [(2000, .var 154 [(.d .str), (.d (.int .i64)), (.d .bool)])]⟩) (⟨[(0, (.d (.pt 151)))], [(2000, .var 154 [(.d .str), (.d (.int .i64)), (.d .bool)])]⟩) [2000] (by kernel_rfl) (by kernel_rfl) (by kernel_rfl)⟩
  | k + 1 => ⟨i_pParser_or_st (i_pParser_or_rec k).1 (i_pParser_or_rec k).2.1 (i_pParser_or_rec k).2.2, i_pParser_and_st (i_pParser_or_rec k).1 (i_pParser_or_rec k).2.1 (i_pParser_or_rec k).2.2, i_pParser_not_st (i_pParser_or_rec k).1 (i_pParser_or_rec k).2.1 (i_pParser_or_rec k).2.2⟩
def i_pParser_or : List C → Option (List C) := i_pParser_or.g FUEL 0
theorem i_pParser_or_ok : FSOk Tryz.checked.prog T0 119 (i_pParser_or_fs i_pParser_or) := (i_pParser_or_rec FUEL).1
def i_pParser_and : List C → Option (List C) := i_pParser_or.g FUEL 1
theorem i_pParser_and_ok : FSOk Tryz.checked.prog T0 143 (i_pParser_and_fs i_pParser_and) := (i_pParser_or_rec FUEL).2.1
def i_pParser_not : List C → Option (List C) := i_pParser_or.g FUEL 2
theorem i_pParser_not_ok : FSOk Tryz.checked.prog T0 157 (i_pParser_not_fs i_pParser_not) := (i_pParser_or_rec FUEL).2.2
def i_pSel_depth.d1 (G0 : List C → Option (List C)) (a b c d : C) : R := (bif (decide (d.I < c.I)) then (bif (decide (0 ≤ d.I)) then (bif (decide (d.I < (b.L.length : Int))) then (call1 (G0 [((b.L.getD d.I.toNat []).getD 0 .nil)]) fun e => (some (.again [.i (if (w64 (e.I + 1)) > a.I then (w64 (e.I + 1)) else a.I), b, c, .i (w64 (d.I + 1))]))) else none) else none) else (some (.brk 0 [a])))
def i_pSel_depth.d2 (G0 : List C → Option (List C)) (a : C) : R := (some (.ret [a]))
def i_pSel_depth.d3 (G0 : List C → Option (List C)) (a : C) : R := (bif a.isP then (bindBlk 0 (lim (ap4 (i_pSel_depth.d1 G0)) [.i 0, (a.P.getD 3 .nil), .i (((a.P.getD 3 .nil).L).length : Int), .i 0]) (ap1 (i_pSel_depth.d2 G0))) else none)
def i_pSel_depth.step (G0 : List C → Option (List C)) : List C → Option (List C) := fun xs => finR (ap1 (i_pSel_depth.d3 G0) xs)
def i_pSel_depth_fs (G : List C → Option (List C)) : FS := ⟨1, ⟨[(0, (.d (.pt 151)))], []⟩, ⟨[(0, (.d (.int .i64)))], []⟩, [], G⟩
theorem i_pSel_depth_st {G0 : List C → Option (List C)} (h0 : FSOk Tryz.checked.prog T0 121 (i_pSel_depth_fs G0)) : FSOk Tryz.checked.prog T0 121 (i_pSel_depth_fs (i_pSel_depth.step G0)) := okOf base0 (fn := Tryz.f121) (c := Tryz.f121.body.getD .skip) (i_pSel_depth_fs (i_pSel_depth.step G0)) (.seq .leaf (.seq .leaf (.seq (.seq .leaf (.block ⟨[(3, (.d (.int .i64)))], []⟩ (.loop ⟨[(3, (.d (.int .i64))), (9, (.d (.sl 123))), (10, (.d (.int .i64))), (11, (.d (.int .i64)))], []⟩ .leaf))) .leaf))) [(121, some 17, (i_pSel_depth_fs G0))] (.cons h0 .nil) (by kernel_rfl) (by kernel_rfl) (by kernel_rfl) (fun xs => by kernel_rfl)
def i_pSel_depth.g : Nat → Nat → List C → Option (List C)
  | 0, _ => fun _ => none
  | k + 1, 0 => i_pSel_depth.step (i_pSel_depth.g k 0)
  | _, _ => fun _ => none
theorem i_pSel_depth_rec : ∀ k : Nat, FSOk Tryz.checked.prog T0 121 (i_pSel_depth_fs (i_pSel_depth.g k 0))
  | 0 => noneOk (fn := Tryz.f121) (c := Tryz.f121.body.getD .skip) (1) (⟨[(0, (.d (.pt 151)))], []⟩) (⟨[(0, (.d (.int .i64)))], []⟩) [] (by kernel_rfl) (by kernel_rfl) (by kernel_rfl)
  | k + 1 => i_pSel_depth_st (i_pSel_depth_rec k)
def i_pSel_depth : List C → Option (List C) := i_pSel_depth.g FUEL 0
theorem i_pSel_depth_ok : FSOk Tryz.checked.prog T0 121 (i_pSel_depth_fs i_pSel_depth) := i_pSel_depth_rec FUEL
def i_pParse.d1 (a : C) : R := (bif (decide ((a.S.size : Int) > 200)) then (some (.ret [.nil, .i 1])) else (call1 (strings_Trim [a, .s (bs #[32])]) fun b => (bif (b.S.toList == (bs #[]).toList) then (some (.ret [.p [.i 0, .s (bs #[]), .s (bs #[]), .l nils], .i 0])) else (call4 (i_pParser_or [a, .i 0, .b true]) fun c d e f => (call3 (i_pParser_gap [d, e, f]) fun g h i => (bif (!(!i.B)) then (bif (decide (h.I < (a.S.size : Int))) then (some (.ret [.nil, .i 2])) else (call1 (i_pSel_depth [c]) fun j => (bif (decide (j.I > 20)) then (some (.ret [.nil, .i 3])) else (some (.ret [c, .i 0]))))) else (some (.ret [.nil, .i 2]))))))))
def i_pParse : List C → Option (List C) := fun xs => finR (ap1 i_pParse.d1 xs)
def i_pParse_fs : FS := ⟨1, ⟨[(0, zt)], []⟩, ⟨[(0, (.tu [(.d (.pt 151)), zi]))], []⟩, [], i_pParse⟩
theorem i_pParse_ok : FSOk Tryz.checked.prog T0 101 i_pParse_fs := okOf base0 (fn := Tryz.f101) (c := Tryz.f101.body.getD .skip) i_pParse_fs (.seq .leaf (.seq .leaf (.seq (.seq .leaf (.cond (.seq .leaf (.frz [13] .leaf)) .leaf)) .leaf))) [(118, some 10, strings_Trim_fs), (119, some 18, (i_pParser_or_fs i_pParser_or)), (120, some 20, i_pParser_gap_fs), (121, some 36, (i_pSel_depth_fs i_pSel_depth))] (.cons strings_Trim_ok (.cons i_pParser_or_ok (.cons i_pParser_gap_ok (.cons i_pSel_depth_ok .nil)))) (by kernel_rfl) (by kernel_rfl) (by kernel_rfl) (fun xs => by kernel_rfl)
def i_pCopyOk.d1 (a b c : C) : R := (bif (decide (c.I < b.I)) then (bif (decide (0 ≤ c.I)) then (bif (decide (c.I < (a.L.length : Int))) then (call2 (i_pParse [((a.L.getD c.I.toNat []).getD 0 .nil)]) fun d e => (bif (!(e.I != 0)) then (call1 (i_within [((a.L.getD c.I.toNat []).getD 1 .nil), .i (-9), .i 9]) fun f => (bif (!f.B) then (some (.ret [.b false])) else (some (.again [a, b, .i (w64 (c.I + 1))])))) else (some (.ret [.b false])))) else none) else none) else (some (.brk 0 [])))
def i_pCopyOk.d2 : R := (some (.ret [.b true]))
def i_pCopyOk.d3 (a b c d e f g h i j k l m : C) : R := (bif a.B then (some (.ret [.b false])) else (call2 (i_pParse [h]) fun n o => (bif (o.I != 0) then (some (.ret [.b false])) else (bindBlk 0 (lim (ap3 i_pCopyOk.d1) [i, .i (i.L.length : Int), .i 0]) (fun xs => i_pCopyOk.d2)))))
def i_pCopyOk.d4 (a b c d e f g h i j k l : C) : R := (bindNrm (call1 (i_pName [a]) fun m => (bif (!(!m.B)) then (call1 (i_within [c, .i 0, .i 100]) fun n => (bif (!(!n.B)) then (call1 (i_within [d, .i 0, .i 1000000]) fun o => (bif (!(!o.B)) then (call1 (i_within [e, .i 0, .i 1000]) fun p => (bif (!(!p.B)) then (call1 (i_within [f, .i 0, .i 1000]) fun q => (bif (!(!q.B)) then (bif (!(decide ((h.L.length : Int) > 5))) then (call1 (i_within [i, .i 0, .i 2]) fun r => (bif (!(!r.B)) then (bif (!(j.S.toList == (bs #[]).toList)) then (call1 (i_pName [j]) fun s => (bif (!(!s.B)) then (bif (!(k.S.toList == (bs #[]).toList)) then (call1 (i_pName [k]) fun t => (some (.nrm [.b (!t.B), a, b, c, d, e, f, g, h, i, j, k, l]))) else (some (.nrm [.b false, a, b, c, d, e, f, g, h, i, j, k, l]))) else (some (.nrm [.b true, a, b, c, d, e, f, g, h, i, j, k, l])))) else (bif (!(k.S.toList == (bs #[]).toList)) then (call1 (i_pName [k]) fun u => (some (.nrm [.b (!u.B), a, b, c, d, e, f, g, h, i, j, k, l]))) else (some (.nrm [.b false, a, b, c, d, e, f, g, h, i, j, k, l])))) else (some (.nrm [.b true, a, b, c, d, e, f, g, h, i, j, k, l])))) else (some (.nrm [.b true, a, b, c, d, e, f, g, h, i, j, k, l]))) else (some (.nrm [.b true, a, b, c, d, e, f, g, h, i, j, k, l])))) else (some (.nrm [.b true, a, b, c, d, e, f, g, h, i, j, k, l])))) else (some (.nrm [.b true, a, b, c, d, e, f, g, h, i, j, k, l])))) else (some (.nrm [.b true, a, b, c, d, e, f, g, h, i, j, k, l])))) else (some (.nrm [.b true, a, b, c, d, e, f, g, h, i, j, k, l])))) (ap13 i_pCopyOk.d3))
def i_pCopyOk : List C → Option (List C) := fun xs => finR (ap12 i_pCopyOk.d4 xs)
def i_pCopyOk_fs : FS := ⟨1, ⟨[(0, z4)], []⟩, ⟨[(0, zo)], []⟩, [], i_pCopyOk⟩
theorem i_pCopyOk_ok : FSOk Tryz.checked.prog T0 68 i_pCopyOk_fs := okOf base0 (fn := Tryz.f68) (c := Tryz.f68.body.getD .skip) i_pCopyOk_fs (.seq .leaf (.seq (.seq (.join ⟨[(1, (.pt 1 0)), (70, zo)], [(1, z0)]⟩ .leaf) .leaf) (.seq .leaf (.seq (.seq .leaf (.block ⟨[], []⟩ (.loop ⟨[(80, (zl 111)), (81, zi), (82, zi)], []⟩ .leaf))) .leaf)))) [(66, some 11, i_pName_fs), (66, some 56, i_pName_fs), (66, some 67, i_pName_fs), (67, some 16, i_within_fs), (67, some 22, i_within_fs), (67, some 28, i_within_fs), (67, some 34, i_within_fs), (67, some 46, i_within_fs), (67, some 97, i_within_fs), (101, some 74, i_pParse_fs), (101, some 89, i_pParse_fs)] (.cons i_pName_ok (.cons i_pName_ok (.cons i_pName_ok (.cons i_within_ok (.cons i_within_ok (.cons i_within_ok (.cons i_within_ok (.cons i_within_ok (.cons i_within_ok (.cons i_pParse_ok (.cons i_pParse_ok .nil))))))))))) (by kernel_rfl) (by kernel_rfl) (by kernel_rfl) (fun xs => by kernel_rfl)
def i_pBerthAt_1.d1 (a b c d e f g : C) : R := (bif g.isP then (some (.ret [.b (a.S.toList == ((g.P.getD 0 .nil).S).toList)])) else none)
def i_pBerthAt_1 : List C → Option (List C) := fun xs => finR (ap7 i_pBerthAt_1.d1 xs)
def i_pBerthAt_1_fs : FS := ⟨2, ⟨[(0, z6), (1, (.d (.pt 9)))], []⟩, ⟨[(0, zo)], []⟩, [], i_pBerthAt_1⟩
theorem i_pBerthAt_1_ok : FSOk Tryz.checked.prog T0 87 i_pBerthAt_1_fs := okOf base0 (fn := Tryz.f87) (c := Tryz.f87.body.getD .skip) i_pBerthAt_1_fs .leaf [] .nil (by kernel_rfl) (by kernel_rfl) (by kernel_rfl) (fun xs => by kernel_rfl)
def slices_IndexFunc_PilotBerth.d1 (a b c d : C) : R := (bif (decide (d.I < c.I)) then (bif (decide (0 ≤ d.I)) then (bif (decide (d.I < (a.L.length : Int))) then (call1 (i_pBerthAt_1 [((a.L.getD d.I.toNat []).getD 0 .nil), ((a.L.getD d.I.toNat []).getD 1 .nil), ((a.L.getD d.I.toNat []).getD 2 .nil), ((a.L.getD d.I.toNat []).getD 3 .nil), ((a.L.getD d.I.toNat []).getD 4 .nil), ((a.L.getD d.I.toNat []).getD 5 .nil), b]) fun e => (bif e.B then (some (.ret [d])) else (some (.again [a, b, c, .i (w64 (d.I + 1))])))) else none) else none) else (some (.brk 0 [])))
def slices_IndexFunc_PilotBerth.d2 : R := (some (.ret [.i (-1)]))
def slices_IndexFunc_PilotBerth.d3 (a b : C) : R := (bindBlk 0 (lim (ap4 slices_IndexFunc_PilotBerth.d1) [a, b, .i (a.L.length : Int), .i 0]) (fun xs => slices_IndexFunc_PilotBerth.d2))
def slices_IndexFunc_PilotBerth : List C → Option (List C) := fun xs => finR (ap2 slices_IndexFunc_PilotBerth.d3 xs)
def slices_IndexFunc_PilotBerth_fs : FS := ⟨2, ⟨[(0, (zl 54)), (1, (.fn 87 [(.d (.pt 9))]))], []⟩, ⟨[(0, zi)], []⟩, [], slices_IndexFunc_PilotBerth⟩
theorem slices_IndexFunc_PilotBerth_ok : FSOk Tryz.checked.prog T0 86 slices_IndexFunc_PilotBerth_fs := okOf base0 (fn := Tryz.f86) (c := Tryz.f86.body.getD .skip) slices_IndexFunc_PilotBerth_fs (.seq .leaf (.seq (.seq .leaf (.block ⟨[], []⟩ (.loop ⟨[(0, (zl 54)), (1, (.fn 87 [(.d (.pt 9))])), (7, zi), (8, zi)], []⟩ .leaf))) .leaf)) [(87, some 16, i_pBerthAt_1_fs)] (.cons i_pBerthAt_1_ok .nil) (by kernel_rfl) (by kernel_rfl) (by kernel_rfl) (fun xs => by kernel_rfl)
def i_pBerthAt.d1 (a b c d e : C) : R := (call1 (slices_IndexFunc_PilotBerth [b, .p [e]]) fun f => (some (.ret [f])))
def i_pBerthAt : List C → Option (List C) := fun xs => finR (ap5 i_pBerthAt.d1 xs)
def i_pBerthAt_fs : FS := ⟨2, ⟨[(0, z2), (1, zt)], []⟩, ⟨[(0, zi)], []⟩, [], i_pBerthAt⟩
theorem i_pBerthAt_ok : FSOk Tryz.checked.prog T0 50 i_pBerthAt_fs := okOf base0 (fn := Tryz.f50) (c := Tryz.f50.body.getD .skip) i_pBerthAt_fs .leaf [(86, some 8, slices_IndexFunc_PilotBerth_fs)] (.cons slices_IndexFunc_PilotBerth_ok .nil) (by kernel_rfl) (by kernel_rfl) (by kernel_rfl) (fun xs => by kernel_rfl)
def i_PilotUsed.d1 (a b c d e f : C) : R := (bif (decide (f.I < e.I)) then (bif (decide (0 ≤ f.I)) then (bif (decide (f.I < (d.L.length : Int))) then (bif ((((d.L.getD f.I.toNat []).getD 11 .nil).S).toList == a.S.toList) then (some (.again [a, .i (w64 (b.I + ((d.L.getD f.I.toNat []).getD 4 .nil).I)), .i (w64 (c.I + ((d.L.getD f.I.toNat []).getD 5 .nil).I)), d, e, .i (w64 (f.I + 1))])) else (some (.again [a, b, c, d, e, .i (w64 (f.I + 1))]))) else none) else none) else (some (.brk 0 [b, c])))
def i_PilotUsed.d2 (a b : C) : R := (some (.ret [a, b]))
def i_PilotUsed.d3 (a b c d e : C) : R := (bif (!(e.S.toList == (bs #[]).toList)) then (call1 (i_pBerthAt [a, b, c, d, e]) fun f => (bif (decide (f.I < 0)) then (some (.ret [.i 0, .i 0])) else (bindBlk 0 (lim (ap6 i_PilotUsed.d1) [e, .i 0, .i 0, d, .i (d.L.length : Int), .i 0]) (ap2 i_PilotUsed.d2)))) else (some (.ret [.i 0, .i 0])))
def i_PilotUsed : List C → Option (List C) := fun xs => finR (ap5 i_PilotUsed.d3 xs)
def i_PilotUsed_fs : FS := ⟨2, ⟨[(0, z2), (1, zt)], []⟩, ⟨[(0, (.tu [zi, zi]))], []⟩, [], i_PilotUsed⟩
theorem i_PilotUsed_ok : FSOk Tryz.checked.prog T0 69 i_PilotUsed_fs := okOf base0 (fn := Tryz.f69) (c := Tryz.f69.body.getD .skip) i_PilotUsed_fs (.seq .leaf (.seq .leaf (.seq .leaf (.seq (.seq .leaf (.block ⟨[(6, zi), (7, zi)], []⟩ (.loop ⟨[(1, zt), (6, zi), (7, zi), (19, (zl 63)), (20, zi), (21, zi)], []⟩ .leaf))) .leaf)))) [(50, some 15, i_pBerthAt_fs)] (.cons i_pBerthAt_ok .nil) (by kernel_rfl) (by kernel_rfl) (by kernel_rfl) (fun xs => by kernel_rfl)
def i_PilotValid.d1 (a b c d e f g : C) : R := (bif (decide (c.I < b.I)) then (bif (decide (0 ≤ c.I)) then (bif (decide (c.I < (a.L.length : Int))) then (call1 (i_pBerthOk [((a.L.getD c.I.toNat []).getD 0 .nil), ((a.L.getD c.I.toNat []).getD 1 .nil), ((a.L.getD c.I.toNat []).getD 2 .nil), ((a.L.getD c.I.toNat []).getD 3 .nil), ((a.L.getD c.I.toNat []).getD 4 .nil), ((a.L.getD c.I.toNat []).getD 5 .nil)]) fun h => (bif (!(!h.B)) then (bif (decide (c.I > 0)) then (bif (decide (0 ≤ (w64 (c.I - 1)))) then (bif (decide ((w64 (c.I - 1)) < (e.L.length : Int))) then (bif ((Op.bytesLess (((a.L.getD c.I.toNat []).getD 0 .nil).S).toList (((e.L.getD (w64 (c.I - 1)).toNat []).getD 0 .nil).S).toList) || ((((a.L.getD c.I.toNat []).getD 0 .nil).S).toList == (((e.L.getD (w64 (c.I - 1)).toNat []).getD 0 .nil).S).toList)) then (some (.ret [.b false])) else (some (.again [a, b, .i (w64 (c.I + 1)), d, e, f, g]))) else none) else none) else (some (.again [a, b, .i (w64 (c.I + 1)), d, e, f, g]))) else (some (.ret [.b false])))) else none) else none) else (some (.brk 0 [d, e, f, g])))
def i_PilotValid.d2 (a b c d e f g h : C) : R := (bif (decide (c.I < b.I)) then (bif (decide (0 ≤ c.I)) then (bif (decide (c.I < (a.L.length : Int))) then (call1 (i_pName [((a.L.getD c.I.toNat []).getD 0 .nil)]) fun i => (bif (!(!i.B)) then (call1 (i_within [((a.L.getD c.I.toNat []).getD 1 .nil), .i 0, .i 60]) fun j => (bif (!(!j.B)) then (bif (decide (c.I > 0)) then (bif (decide (0 ≤ (w64 (c.I - 1)))) then (bif (decide ((w64 (c.I - 1)) < (f.L.length : Int))) then (bif ((Op.bytesLess (((a.L.getD c.I.toNat []).getD 0 .nil).S).toList (((f.L.getD (w64 (c.I - 1)).toNat []).getD 0 .nil).S).toList) || ((((a.L.getD c.I.toNat []).getD 0 .nil).S).toList == (((f.L.getD (w64 (c.I - 1)).toNat []).getD 0 .nil).S).toList)) then (some (.ret [.b false])) else (some (.again [a, b, .i (w64 (c.I + 1)), d, e, f, g, .l (mset (((a.L.getD c.I.toNat []).getD 0 .nil).S) (.b true) h.L)]))) else none) else none) else (some (.again [a, b, .i (w64 (c.I + 1)), d, e, f, g, .l (mset (((a.L.getD c.I.toNat []).getD 0 .nil).S) (.b true) h.L)]))) else (some (.ret [.b false])))) else (some (.ret [.b false])))) else none) else none) else (some (.brk 2 [d, e, f, g, .l h.L])))
def i_PilotValid.d3 (a b c d e f g h i j k l m n o p q r s t u v : C) : R := (bif d.B then (some (.ret [.b false])) else (some (.again [a, b, .i (w64 (c.I + 1)), e, f, g, h, .l i.L, .l (mset v.S (.i (w64 ((mget (.i 0) v.S j.L).I + 1))) j.L)])))
def i_PilotValid.d4 (a b c d e f g h i : C) : R := (bif (decide (c.I < b.I)) then (bif (decide (0 ≤ c.I)) then (bif (decide (c.I < (a.L.length : Int))) then (bindNrm (call1 (i_pCopyOk [((a.L.getD c.I.toNat []).getD 0 .nil), ((a.L.getD c.I.toNat []).getD 1 .nil), ((a.L.getD c.I.toNat []).getD 2 .nil), ((a.L.getD c.I.toNat []).getD 3 .nil), ((a.L.getD c.I.toNat []).getD 4 .nil), ((a.L.getD c.I.toNat []).getD 5 .nil), ((a.L.getD c.I.toNat []).getD 6 .nil), ((a.L.getD c.I.toNat []).getD 7 .nil), ((a.L.getD c.I.toNat []).getD 8 .nil), ((a.L.getD c.I.toNat []).getD 9 .nil), ((a.L.getD c.I.toNat []).getD 10 .nil), ((a.L.getD c.I.toNat []).getD 11 .nil)]) fun j => (bif (!(!j.B)) then (bif (!(!((mget (.b false) (((a.L.getD c.I.toNat []).getD 1 .nil).S) h.L).B))) then (bif (decide (c.I > 0)) then (bif (decide (0 ≤ (w64 (c.I - 1)))) then (bif (decide ((w64 (c.I - 1)) < (g.L.length : Int))) then (bif (!((Op.bytesLess (((a.L.getD c.I.toNat []).getD 0 .nil).S).toList (((g.L.getD (w64 (c.I - 1)).toNat []).getD 0 .nil).S).toList) || ((((a.L.getD c.I.toNat []).getD 0 .nil).S).toList == (((g.L.getD (w64 (c.I - 1)).toNat []).getD 0 .nil).S).toList))) then (bif (!((((a.L.getD c.I.toNat []).getD 11 .nil).S).toList == (bs #[]).toList)) then (call1 (i_pBerthAt [d, e, f, g, ((a.L.getD c.I.toNat []).getD 11 .nil)]) fun k => (some (.nrm [a, b, c, .b (decide (k.I < 0)), d, e, f, g, .l h.L, .l i.L, ((a.L.getD c.I.toNat []).getD 0 .nil), ((a.L.getD c.I.toNat []).getD 1 .nil), ((a.L.getD c.I.toNat []).getD 2 .nil), ((a.L.getD c.I.toNat []).getD 3 .nil), ((a.L.getD c.I.toNat []).getD 4 .nil), ((a.L.getD c.I.toNat []).getD 5 .nil), ((a.L.getD c.I.toNat []).getD 6 .nil), ((a.L.getD c.I.toNat []).getD 7 .nil), ((a.L.getD c.I.toNat []).getD 8 .nil), ((a.L.getD c.I.toNat []).getD 9 .nil), ((a.L.getD c.I.toNat []).getD 10 .nil), ((a.L.getD c.I.toNat []).getD 11 .nil)]))) else (some (.nrm [a, b, c, .b false, d, e, f, g, .l h.L, .l i.L, ((a.L.getD c.I.toNat []).getD 0 .nil), ((a.L.getD c.I.toNat []).getD 1 .nil), ((a.L.getD c.I.toNat []).getD 2 .nil), ((a.L.getD c.I.toNat []).getD 3 .nil), ((a.L.getD c.I.toNat []).getD 4 .nil), ((a.L.getD c.I.toNat []).getD 5 .nil), ((a.L.getD c.I.toNat []).getD 6 .nil), ((a.L.getD c.I.toNat []).getD 7 .nil), ((a.L.getD c.I.toNat []).getD 8 .nil), ((a.L.getD c.I.toNat []).getD 9 .nil), ((a.L.getD c.I.toNat []).getD 10 .nil), ((a.L.getD c.I.toNat []).getD 11 .nil)]))) else (some (.nrm [a, b, c, .b true, d, e, f, g, .l h.L, .l i.L, ((a.L.getD c.I.toNat []).getD 0 .nil), ((a.L.getD c.I.toNat []).getD 1 .nil), ((a.L.getD c.I.toNat []).getD 2 .nil), ((a.L.getD c.I.toNat []).getD 3 .nil), ((a.L.getD c.I.toNat []).getD 4 .nil), ((a.L.getD c.I.toNat []).getD 5 .nil), ((a.L.getD c.I.toNat []).getD 6 .nil), ((a.L.getD c.I.toNat []).getD 7 .nil), ((a.L.getD c.I.toNat []).getD 8 .nil), ((a.L.getD c.I.toNat []).getD 9 .nil), ((a.L.getD c.I.toNat []).getD 10 .nil), ((a.L.getD c.I.toNat []).getD 11 .nil)]))) else none) else none) else (bif (!((((a.L.getD c.I.toNat []).getD 11 .nil).S).toList == (bs #[]).toList)) then (call1 (i_pBerthAt [d, e, f, g, ((a.L.getD c.I.toNat []).getD 11 .nil)]) fun l => (some (.nrm [a, b, c, .b (decide (l.I < 0)), d, e, f, g, .l h.L, .l i.L, ((a.L.getD c.I.toNat []).getD 0 .nil), ((a.L.getD c.I.toNat []).getD 1 .nil), ((a.L.getD c.I.toNat []).getD 2 .nil), ((a.L.getD c.I.toNat []).getD 3 .nil), ((a.L.getD c.I.toNat []).getD 4 .nil), ((a.L.getD c.I.toNat []).getD 5 .nil), ((a.L.getD c.I.toNat []).getD 6 .nil), ((a.L.getD c.I.toNat []).getD 7 .nil), ((a.L.getD c.I.toNat []).getD 8 .nil), ((a.L.getD c.I.toNat []).getD 9 .nil), ((a.L.getD c.I.toNat []).getD 10 .nil), ((a.L.getD c.I.toNat []).getD 11 .nil)]))) else (some (.nrm [a, b, c, .b false, d, e, f, g, .l h.L, .l i.L, ((a.L.getD c.I.toNat []).getD 0 .nil), ((a.L.getD c.I.toNat []).getD 1 .nil), ((a.L.getD c.I.toNat []).getD 2 .nil), ((a.L.getD c.I.toNat []).getD 3 .nil), ((a.L.getD c.I.toNat []).getD 4 .nil), ((a.L.getD c.I.toNat []).getD 5 .nil), ((a.L.getD c.I.toNat []).getD 6 .nil), ((a.L.getD c.I.toNat []).getD 7 .nil), ((a.L.getD c.I.toNat []).getD 8 .nil), ((a.L.getD c.I.toNat []).getD 9 .nil), ((a.L.getD c.I.toNat []).getD 10 .nil), ((a.L.getD c.I.toNat []).getD 11 .nil)])))) else (some (.nrm [a, b, c, .b true, d, e, f, g, .l h.L, .l i.L, ((a.L.getD c.I.toNat []).getD 0 .nil), ((a.L.getD c.I.toNat []).getD 1 .nil), ((a.L.getD c.I.toNat []).getD 2 .nil), ((a.L.getD c.I.toNat []).getD 3 .nil), ((a.L.getD c.I.toNat []).getD 4 .nil), ((a.L.getD c.I.toNat []).getD 5 .nil), ((a.L.getD c.I.toNat []).getD 6 .nil), ((a.L.getD c.I.toNat []).getD 7 .nil), ((a.L.getD c.I.toNat []).getD 8 .nil), ((a.L.getD c.I.toNat []).getD 9 .nil), ((a.L.getD c.I.toNat []).getD 10 .nil), ((a.L.getD c.I.toNat []).getD 11 .nil)]))) else (some (.nrm [a, b, c, .b true, d, e, f, g, .l h.L, .l i.L, ((a.L.getD c.I.toNat []).getD 0 .nil), ((a.L.getD c.I.toNat []).getD 1 .nil), ((a.L.getD c.I.toNat []).getD 2 .nil), ((a.L.getD c.I.toNat []).getD 3 .nil), ((a.L.getD c.I.toNat []).getD 4 .nil), ((a.L.getD c.I.toNat []).getD 5 .nil), ((a.L.getD c.I.toNat []).getD 6 .nil), ((a.L.getD c.I.toNat []).getD 7 .nil), ((a.L.getD c.I.toNat []).getD 8 .nil), ((a.L.getD c.I.toNat []).getD 9 .nil), ((a.L.getD c.I.toNat []).getD 10 .nil), ((a.L.getD c.I.toNat []).getD 11 .nil)])))) (ap22 i_PilotValid.d3)) else none) else none) else (some (.brk 4 [d, e, f, g, .l i.L])))
def i_PilotValid.d5 (a b c d e f g h : C) : R := (bif (decide (c.I < b.I)) then (bif (decide (0 ≤ c.I)) then (bif (decide (c.I < (a.L.length : Int))) then (call2 (i_PilotUsed [d, e, f, g, ((a.L.getD c.I.toNat []).getD 0 .nil)]) fun i j => (bif (!(decide ((mget (.i 0) (((a.L.getD c.I.toNat []).getD 0 .nil).S) h.L).I > 10))) then (bif (!(decide (i.I > ((a.L.getD c.I.toNat []).getD 3 .nil).I))) then (bif (decide (j.I > ((a.L.getD c.I.toNat []).getD 4 .nil).I)) then (some (.ret [.b false])) else (some (.again [a, b, .i (w64 (c.I + 1)), d, e, f, g, .l h.L]))) else (some (.ret [.b false]))) else (some (.ret [.b false])))) else none) else none) else (some (.brk 6 [])))
def i_PilotValid.d6 : R := (some (.ret [.b true]))
def i_PilotValid.d7 (a b c d e : C) : R := (bindBlk 6 (lim (ap8 i_PilotValid.d5) [b, .i (b.L.length : Int), .i 0, a, b, c, d, .l e.L]) (fun xs => i_PilotValid.d6))
def i_PilotValid.d8 (a b c d e : C) : R := (bindBlk 4 (lim (ap9 i_PilotValid.d4) [d, .i (d.L.length : Int), .i 0, a, b, c, d, .l e.L, .l nils]) (ap5 i_PilotValid.d7))
def i_PilotValid.d9 (a b c d : C) : R := (bindBlk 2 (lim (ap8 i_PilotValid.d2) [c, .i (c.L.length : Int), .i 0, a, b, c, d, .l nils]) (ap5 i_PilotValid.d8))
def i_PilotValid.d10 (a b c d : C) : R := (bif (!(decide ((b.L.length : Int) > 12))) then (bif (!(decide ((c.L.length : Int) > 30))) then (bif (decide ((d.L.length : Int) > 60)) then (some (.ret [.b false])) else (bindBlk 0 (lim (ap7 i_PilotValid.d1) [b, .i (b.L.length : Int), .i 0, a, b, c, d]) (ap4 i_PilotValid.d9))) else (some (.ret [.b false]))) else (some (.ret [.b false])))
def i_PilotValid : List C → Option (List C) := fun xs => finR (ap4 i_PilotValid.d10 xs)
def i_PilotValid_fs : FS := ⟨1, ⟨[(0, z2)], []⟩, ⟨[(0, zo)], []⟩, [], i_PilotValid⟩
theorem i_PilotValid_ok : FSOk Tryz.checked.prog T0 28 i_PilotValid_fs := okOf base0 (fn := Tryz.f28) (c := Tryz.f28.body.getD .skip) i_PilotValid_fs (.seq .leaf (.seq .leaf (.seq (.seq .leaf (.block ⟨[(1, (.pt 1 0))], [(1, z1)]⟩ (.loop ⟨[(1, (.pt 1 0)), (32, (zl 54)), (33, zi), (34, zi)], [(1, z1)]⟩ .leaf))) (.seq .leaf (.seq (.seq .leaf (.block ⟨[(1, (.pt 1 0)), (5, (.mp 59))], [(1, z1), (59, .mp 4)]⟩ (.loop ⟨[(1, (.pt 1 0)), (5, (.mp 59)), (61, (zl 84)), (62, zi), (63, zi)], [(1, z1), (59, .mp 4)]⟩ .leaf))) (.seq .leaf (.seq (.seq .leaf (.block ⟨[(1, (.pt 1 0)), (8, (.mp 98))], [(1, z1), (98, .mp 3)]⟩ (.loop ⟨[(1, (.pt 1 0)), (5, (.mp 59)), (8, (.mp 98)), (100, (zl 63)), (101, zi), (102, zi)], [(1, z1), (59, .mp 4), (98, .mp 3)]⟩ (.seq .leaf (.seq .leaf (.seq (.skip (.seq .leaf (.seq (.seq (.join ⟨[(1, (.pt 1 0)), (5, (.mp 59)), (8, (.mp 98)), (10, (.pt 10 0)), (100, (zl 63)), (101, zi), (102, zi), (144, zo)], [(1, z1), (59, .mp 4), (98, .mp 3), (10, z0)]⟩ .leaf) .leaf) .leaf))) .leaf)))))) (.seq (.seq .leaf (.block ⟨[], []⟩ (.loop ⟨[(1, (.pt 1 0)), (8, (.mp 98)), (152, (zl 54)), (153, zi), (154, zi)], [(1, z1), (98, .mp 3)]⟩ .leaf))) .leaf)))))))) [(50, some 141, i_pBerthAt_fs), (65, some 40, i_pBerthOk_fs), (66, some 70, i_pName_fs), (67, some 75, i_within_fs), (68, some 108, i_pCopyOk_fs), (69, some 162, i_PilotUsed_fs)] (.cons i_pBerthAt_ok (.cons i_pBerthOk_ok (.cons i_pName_ok (.cons i_within_ok (.cons i_pCopyOk_ok (.cons i_PilotUsed_ok .nil)))))) (by kernel_rfl) (by kernel_rfl) (by kernel_rfl) (fun xs => by kernel_rfl)
def i_pCopyAt_1.d1 (a b c d e f g h i j k l m : C) : R := (bif m.isP then (some (.ret [.b (a.S.toList == ((m.P.getD 0 .nil).S).toList)])) else none)
def i_pCopyAt_1 : List C → Option (List C) := fun xs => finR (ap13 i_pCopyAt_1.d1 xs)
def i_pCopyAt_1_fs : FS := ⟨2, ⟨[(0, z4), (1, (.d (.pt 9)))], []⟩, ⟨[(0, zo)], []⟩, [], i_pCopyAt_1⟩
theorem i_pCopyAt_1_ok : FSOk Tryz.checked.prog T0 85 i_pCopyAt_1_fs := okOf base0 (fn := Tryz.f85) (c := Tryz.f85.body.getD .skip) i_pCopyAt_1_fs .leaf [] .nil (by kernel_rfl) (by kernel_rfl) (by kernel_rfl) (fun xs => by kernel_rfl)
def slices_IndexFunc_PilotCopy.d1 (a b c d : C) : R := (bif (decide (d.I < c.I)) then (bif (decide (0 ≤ d.I)) then (bif (decide (d.I < (a.L.length : Int))) then (call1 (i_pCopyAt_1 [((a.L.getD d.I.toNat []).getD 0 .nil), ((a.L.getD d.I.toNat []).getD 1 .nil), ((a.L.getD d.I.toNat []).getD 2 .nil), ((a.L.getD d.I.toNat []).getD 3 .nil), ((a.L.getD d.I.toNat []).getD 4 .nil), ((a.L.getD d.I.toNat []).getD 5 .nil), ((a.L.getD d.I.toNat []).getD 6 .nil), ((a.L.getD d.I.toNat []).getD 7 .nil), ((a.L.getD d.I.toNat []).getD 8 .nil), ((a.L.getD d.I.toNat []).getD 9 .nil), ((a.L.getD d.I.toNat []).getD 10 .nil), ((a.L.getD d.I.toNat []).getD 11 .nil), b]) fun e => (bif e.B then (some (.ret [d])) else (some (.again [a, b, c, .i (w64 (d.I + 1))])))) else none) else none) else (some (.brk 0 [])))
def slices_IndexFunc_PilotCopy.d2 : R := (some (.ret [.i (-1)]))
def slices_IndexFunc_PilotCopy.d3 (a b : C) : R := (bindBlk 0 (lim (ap4 slices_IndexFunc_PilotCopy.d1) [a, b, .i (a.L.length : Int), .i 0]) (fun xs => slices_IndexFunc_PilotCopy.d2))
def slices_IndexFunc_PilotCopy : List C → Option (List C) := fun xs => finR (ap2 slices_IndexFunc_PilotCopy.d3 xs)
def slices_IndexFunc_PilotCopy_fs : FS := ⟨2, ⟨[(0, (zl 63)), (1, (.fn 85 [(.d (.pt 9))]))], []⟩, ⟨[(0, zi)], []⟩, [], slices_IndexFunc_PilotCopy⟩
theorem slices_IndexFunc_PilotCopy_ok : FSOk Tryz.checked.prog T0 84 slices_IndexFunc_PilotCopy_fs := okOf base0 (fn := Tryz.f84) (c := Tryz.f84.body.getD .skip) slices_IndexFunc_PilotCopy_fs (.seq .leaf (.seq (.seq .leaf (.block ⟨[], []⟩ (.loop ⟨[(0, (zl 63)), (1, (.fn 85 [(.d (.pt 9))])), (7, zi), (8, zi)], []⟩ .leaf))) .leaf)) [(85, some 16, i_pCopyAt_1_fs)] (.cons i_pCopyAt_1_ok .nil) (by kernel_rfl) (by kernel_rfl) (by kernel_rfl) (fun xs => by kernel_rfl)
def i_pCopyAt.d1 (a b c d e : C) : R := (call1 (slices_IndexFunc_PilotCopy [d, .p [e]]) fun f => (some (.ret [f])))
def i_pCopyAt : List C → Option (List C) := fun xs => finR (ap5 i_pCopyAt.d1 xs)
def i_pCopyAt_fs : FS := ⟨2, ⟨[(0, z2), (1, zt)], []⟩, ⟨[(0, zi)], []⟩, [], i_pCopyAt⟩
theorem i_pCopyAt_ok : FSOk Tryz.checked.prog T0 49 i_pCopyAt_fs := okOf base0 (fn := Tryz.f49) (c := Tryz.f49.body.getD .skip) i_pCopyAt_fs .leaf [(84, some 8, slices_IndexFunc_PilotCopy_fs)] (.cons slices_IndexFunc_PilotCopy_ok .nil) (by kernel_rfl) (by kernel_rfl) (by kernel_rfl) (fun xs => by kernel_rfl)
def i_one.d1 (a : C) : R := (bif a.B then (some (.ret [.i 1])) else (some (.ret [.i 0])))
def i_one : List C → Option (List C) := fun xs => finR (ap1 i_one.d1 xs)
def i_one_fs : FS := ⟨1, ⟨[(0, zo)], []⟩, ⟨[(0, zi)], []⟩, [], i_one⟩
theorem i_one_ok : FSOk Tryz.checked.prog T0 78 i_one_fs := okOf base0 (fn := Tryz.f78) (c := Tryz.f78.body.getD .skip) i_one_fs .leaf [] .nil (by kernel_rfl) (by kernel_rfl) (by kernel_rfl) (fun xs => by kernel_rfl)
def i_pMayGo.d1 (a b c d e f g h i : C) : R := (bif (decide (d.I < c.I)) then (bif (decide (0 ≤ d.I)) then (bif (decide (d.I < (b.L.length : Int))) then (call1 (i_pCopyAt [e, f, g, h, ((b.L.getD d.I.toNat []).getD 0 .nil)]) fun j => (bif (!(decide (j.I < 0))) then (bif (decide (0 ≤ j.I)) then (bif (decide (j.I < (h.L.length : Int))) then (bif (!((((h.L.getD j.I.toNat []).getD 11 .nil).S).toList == (bs #[]).toList)) then (bif (decide (d.I > 0)) then (bif (decide (0 ≤ (w64 (d.I - 1)))) then (bif (decide ((w64 (d.I - 1)) < (a.L.length : Int))) then (bif ((Op.bytesLess (((b.L.getD d.I.toNat []).getD 0 .nil).S).toList (((a.L.getD (w64 (d.I - 1)).toNat []).getD 0 .nil).S).toList) || ((((b.L.getD d.I.toNat []).getD 0 .nil).S).toList == (((a.L.getD (w64 (d.I - 1)).toNat []).getD 0 .nil).S).toList)) then (some (.ret [.b false])) else (bif (decide (0 ≤ j.I)) then (bif (decide (j.I < (h.L.length : Int))) then (some (.again [a, b, c, .i (w64 (d.I + 1)), e, f, g, h, .l (mset (((h.L.getD j.I.toNat []).getD 1 .nil).S) (.i (w64 ((mget (.i 0) (((h.L.getD j.I.toNat []).getD 1 .nil).S) i.L).I + 1))) i.L)])) else none) else none)) else none) else none) else (bif (decide (0 ≤ j.I)) then (bif (decide (j.I < (h.L.length : Int))) then (some (.again [a, b, c, .i (w64 (d.I + 1)), e, f, g, h, .l (mset (((h.L.getD j.I.toNat []).getD 1 .nil).S) (.i (w64 ((mget (.i 0) (((h.L.getD j.I.toNat []).getD 1 .nil).S) i.L).I + 1))) i.L)])) else none) else none)) else (some (.ret [.b false]))) else none) else none) else (some (.ret [.b false])))) else none) else none) else (some (.brk 0 [e, f, g, h, .l i.L])))
def i_pMayGo.d2 (a b c d e f g h i j k l m n : C) : R := (bif (decide (g.I < f.I)) then (bif (decide (0 ≤ g.I)) then (bif (decide (g.I < (e.L.length : Int))) then (bif ((((e.L.getD g.I.toNat []).getD 1 .nil).S).toList == m.S.toList) then (call1 (i_one [.b ((((e.L.getD g.I.toNat []).getD 11 .nil).S).toList == (bs #[]).toList)]) fun o => (some (.again [.i (w64 (a.I + o.I)), b, c, d, e, f, .i (w64 (g.I + 1)), h, i, j, k, .l l.L, m, n]))) else (call1 (i_one [.b false]) fun p => (some (.again [.i (w64 (a.I + p.I)), b, c, d, e, f, .i (w64 (g.I + 1)), h, i, j, k, .l l.L, m, n])))) else none) else none) else (some (.brk 4 [a, b, c, d, h, i, j, k, .l l.L, m, n])))
def i_pMayGo.d3 (a b c d e f g h i j k : C) : R := (bif (decide ((mget (.i 0) j.S i.L).I > (w64 (k.I - a.I)))) then (some (.ret [.b false])) else (some (.brk 3 [b, c, d, e, f, g, h, .l i.L])))
def i_pMayGo.d4 (a b c d e f g h : C) : R := (some (.again [a, b, .i (w64 (c.I + 1)), d, e, f, g, .l h.L]))
def i_pMayGo.d5 (a b c d e f g h : C) : R := (bif (decide (c.I < b.I)) then (bindBlk 3 (bif (decide (0 ≤ c.I)) then (bif (decide (c.I < (a.L.length : Int))) then (bif ((mget (.i 0) (((a.L.getD c.I.toNat []).getD 0 .nil).S) h.L).I == 0) then (some (.brk 3 [a, b, c, d, e, f, g, .l h.L])) else (bindBlk 4 (lim (ap14 i_pMayGo.d2) [.i 0, a, b, c, g, .i (g.L.length : Int), .i 0, d, e, f, g, .l h.L, ((a.L.getD c.I.toNat []).getD 0 .nil), ((a.L.getD c.I.toNat []).getD 1 .nil)]) (ap11 i_pMayGo.d3))) else none) else none) (ap8 i_pMayGo.d4)) else (some (.brk 2 [])))
def i_pMayGo.d6 : R := (some (.ret [.b true]))
def i_pMayGo.d7 (a b c d e : C) : R := (bindBlk 2 (lim (ap8 i_pMayGo.d5) [c, .i (c.L.length : Int), .i 0, a, b, c, d, .l e.L]) (fun xs => i_pMayGo.d6))
def i_pMayGo.d8 (a b c d e : C) : R := (bindBlk 0 (lim (ap9 i_pMayGo.d1) [e, e, .i (e.L.length : Int), .i 0, a, b, c, d, .l nils]) (ap5 i_pMayGo.d7))
def i_pMayGo : List C → Option (List C) := fun xs => finR (ap5 i_pMayGo.d8 xs)
def i_pMayGo_fs : FS := ⟨2, ⟨[(0, z2), (1, (zl 9))], []⟩, ⟨[(0, zo)], []⟩, [], i_pMayGo⟩
theorem i_pMayGo_ok : FSOk Tryz.checked.prog T0 42 i_pMayGo_fs := okOf base0 (fn := Tryz.f42) (c := Tryz.f42.body.getD .skip) i_pMayGo_fs (.seq .leaf (.seq .leaf (.seq (.seq .leaf (.block ⟨[(2, (.pt 2 0)), (5, (.mp 14))], [(2, z1), (14, .mp 3)]⟩ (.loop ⟨[(1, (zl 9)), (2, (.pt 2 0)), (5, (.mp 14)), (15, (zl 9)), (16, zi), (17, zi)], [(2, z1), (14, .mp 3)]⟩ .leaf))) (.seq (.seq .leaf (.block ⟨[], []⟩ (.loop ⟨[(2, (.pt 2 0)), (5, (.mp 14)), (60, (zl 84)), (61, zi), (62, zi)], [(2, z1), (14, .mp 3)]⟩ (.seq .leaf (.seq .leaf (.seq (.block ⟨[(2, (.pt 2 0)), (5, (.mp 14)), (60, (zl 84)), (61, zi), (62, zi)], [(2, z1), (14, .mp 3)]⟩ (.seq .leaf (.seq .leaf (.seq .leaf (.seq (.seq .leaf (.block ⟨[(2, (.pt 2 0)), (5, (.mp 14)), (10, (.pt 10 0)), (11, zi), (60, (zl 84)), (61, zi), (62, zi)], [(2, z1), (14, .mp 3), (10, .var 84 [zt, zi])]⟩ (.loop ⟨[(2, (.pt 2 0)), (5, (.mp 14)), (10, (.pt 10 0)), (11, zi), (60, (zl 84)), (61, zi), (62, zi), (72, (zl 63)), (73, zi), (74, zi)], [(2, z1), (14, .mp 3), (10, .var 84 [zt, zi])]⟩ .leaf))) .leaf))))) .leaf)))))) .leaf)))) [(49, some 24, i_pCopyAt_fs), (78, some 89, i_one_fs)] (.cons i_pCopyAt_ok (.cons i_one_ok .nil)) (by kernel_rfl) (by kernel_rfl) (by kernel_rfl) (fun xs => by kernel_rfl)
def i_PilotMayGo.d1 (a b c d e : C) : R := (call1 (i_PilotValid [a, b, c, d]) fun f => (bif f.B then (call1 (i_pMayGo [a, b, c, d, e]) fun g => (some (.ret [.b g.B]))) else (some (.ret [.b false]))))
def i_PilotMayGo : List C → Option (List C) := fun xs => finR (ap5 i_PilotMayGo.d1 xs)
def i_PilotMayGo_fs : FS := ⟨2, ⟨[(0, z2), (1, (zl 9))], []⟩, ⟨[(0, zo)], []⟩, [], i_PilotMayGo⟩
theorem i_PilotMayGo_ok : FSOk Tryz.checked.prog T0 14 i_PilotMayGo_fs := okOf base0 (fn := Tryz.f14) (c := Tryz.f14.body.getD .skip) i_PilotMayGo_fs .leaf [(28, some 6, i_PilotValid_fs), (42, some 10, i_pMayGo_fs)] (.cons i_PilotValid_ok (.cons i_pMayGo_ok .nil)) (by kernel_rfl) (by kernel_rfl) (by kernel_rfl) (fun xs => by kernel_rfl)
def w_eqStringS.d1 (a b c : C) : R := (bif (decide (c.I < (a.L.length : Int))) then (bif (decide (0 ≤ c.I)) then (bif (decide (c.I < (a.L.length : Int))) then (bif (decide (0 ≤ c.I)) then (bif (decide (c.I < (b.L.length : Int))) then (bif (!((((a.L.getD c.I.toNat []).getD 0 .nil).S).toList == (((b.L.getD c.I.toNat []).getD 0 .nil).S).toList)) then (some (.ret [.b false])) else (some (.again [a, b, .i (w64 (c.I + 1))]))) else none) else none) else none) else none) else (some (.brk 0 [])))
def w_eqStringS.d2 : R := (some (.ret [.b true]))
def w_eqStringS.d3 (a b : C) : R := (bif ((a.L.length : Int) != (b.L.length : Int)) then (some (.ret [.b false])) else (bindBlk 0 (lim (ap3 w_eqStringS.d1) [a, b, .i 0]) (fun xs => w_eqStringS.d2)))
def w_eqStringS : List C → Option (List C) := fun xs => finR (ap2 w_eqStringS.d3 xs)
def w_eqStringS_fs : FS := ⟨2, ⟨[(0, (zl 9)), (1, (zl 9))], []⟩, ⟨[(0, zo)], []⟩, [], w_eqStringS⟩
theorem w_eqStringS_ok : FSOk Tryz.checked.prog T0 16 w_eqStringS_fs := okOf base0 (fn := Tryz.f16) (c := Tryz.f16.body.getD .skip) w_eqStringS_fs (.seq .leaf (.seq .leaf (.seq (.seq .leaf (.block ⟨[], []⟩ (.loop ⟨[(0, (zl 9)), (1, (zl 9)), (5, zi)], []⟩ .leaf))) .leaf))) [] .nil (by kernel_rfl) (by kernel_rfl) (by kernel_rfl) (fun xs => by kernel_rfl)
def w_eqPilotBerth.d1 (a b c d e f g h i j k l : C) : R := (bif (!(a.S.toList == g.S.toList)) then (some (.ret [.b false])) else (bif (!(b.S.toList == h.S.toList)) then (some (.ret [.b false])) else (call1 (w_eqStringS [c, i]) fun m => (bif (!m.B) then (some (.ret [.b false])) else (bif (d.I != j.I) then (some (.ret [.b false])) else (bif (e.I != k.I) then (some (.ret [.b false])) else (bif (!(f.B == l.B)) then (some (.ret [.b false])) else (some (.ret [.b true])))))))))
def w_eqPilotBerth : List C → Option (List C) := fun xs => finR (ap12 w_eqPilotBerth.d1 xs)
def w_eqPilotBerth_fs : FS := ⟨2, ⟨[(0, z6), (1, z6)], []⟩, ⟨[(0, zo)], []⟩, [], w_eqPilotBerth⟩
theorem w_eqPilotBerth_ok : FSOk Tryz.checked.prog T0 79 w_eqPilotBerth_fs := okOf base0 (fn := Tryz.f79) (c := Tryz.f79.body.getD .skip) w_eqPilotBerth_fs .leaf [(16, some 19, w_eqStringS_fs)] (.cons w_eqStringS_ok .nil) (by kernel_rfl) (by kernel_rfl) (by kernel_rfl) (fun xs => by kernel_rfl)
def w_eqPilotBerthS.d1 (a b c : C) : R := (bif (decide (c.I < (a.L.length : Int))) then (bif (decide (0 ≤ c.I)) then (bif (decide (c.I < (a.L.length : Int))) then (bif (decide (0 ≤ c.I)) then (bif (decide (c.I < (b.L.length : Int))) then (call1 (w_eqPilotBerth [((a.L.getD c.I.toNat []).getD 0 .nil), ((a.L.getD c.I.toNat []).getD 1 .nil), ((a.L.getD c.I.toNat []).getD 2 .nil), ((a.L.getD c.I.toNat []).getD 3 .nil), ((a.L.getD c.I.toNat []).getD 4 .nil), ((a.L.getD c.I.toNat []).getD 5 .nil), ((b.L.getD c.I.toNat []).getD 0 .nil), ((b.L.getD c.I.toNat []).getD 1 .nil), ((b.L.getD c.I.toNat []).getD 2 .nil), ((b.L.getD c.I.toNat []).getD 3 .nil), ((b.L.getD c.I.toNat []).getD 4 .nil), ((b.L.getD c.I.toNat []).getD 5 .nil)]) fun d => (bif (!d.B) then (some (.ret [.b false])) else (some (.again [a, b, .i (w64 (c.I + 1))])))) else none) else none) else none) else none) else (some (.brk 0 [])))
def w_eqPilotBerthS.d2 : R := (some (.ret [.b true]))
def w_eqPilotBerthS.d3 (a b : C) : R := (bif ((a.L.length : Int) != (b.L.length : Int)) then (some (.ret [.b false])) else (bindBlk 0 (lim (ap3 w_eqPilotBerthS.d1) [a, b, .i 0]) (fun xs => w_eqPilotBerthS.d2)))
def w_eqPilotBerthS : List C → Option (List C) := fun xs => finR (ap2 w_eqPilotBerthS.d3 xs)
def w_eqPilotBerthS_fs : FS := ⟨2, ⟨[(0, (zl 54)), (1, (zl 54))], []⟩, ⟨[(0, zo)], []⟩, [], w_eqPilotBerthS⟩
theorem w_eqPilotBerthS_ok : FSOk Tryz.checked.prog T0 43 w_eqPilotBerthS_fs := okOf base0 (fn := Tryz.f43) (c := Tryz.f43.body.getD .skip) w_eqPilotBerthS_fs (.seq .leaf (.seq .leaf (.seq (.seq .leaf (.block ⟨[], []⟩ (.loop ⟨[(0, (zl 54)), (1, (zl 54)), (5, zi)], []⟩ .leaf))) .leaf))) [(79, some 25, w_eqPilotBerth_fs)] (.cons w_eqPilotBerth_ok .nil) (by kernel_rfl) (by kernel_rfl) (by kernel_rfl) (fun xs => by kernel_rfl)
def w_eqPilotService.d1 (a b c d : C) : R := (bif (!(a.S.toList == c.S.toList)) then (some (.ret [.b false])) else (bif (b.I != d.I) then (some (.ret [.b false])) else (some (.ret [.b true]))))
def w_eqPilotService : List C → Option (List C) := fun xs => finR (ap4 w_eqPilotService.d1 xs)
def w_eqPilotService_fs : FS := ⟨2, ⟨[(0, (.ag [zt, zi])), (1, (.ag [zt, zi]))], []⟩, ⟨[(0, zo)], []⟩, [], w_eqPilotService⟩
theorem w_eqPilotService_ok : FSOk Tryz.checked.prog T0 80 w_eqPilotService_fs := okOf base0 (fn := Tryz.f80) (c := Tryz.f80.body.getD .skip) w_eqPilotService_fs .leaf [] .nil (by kernel_rfl) (by kernel_rfl) (by kernel_rfl) (fun xs => by kernel_rfl)
def w_eqPilotServiceS.d1 (a b c : C) : R := (bif (decide (c.I < (a.L.length : Int))) then (bif (decide (0 ≤ c.I)) then (bif (decide (c.I < (a.L.length : Int))) then (bif (decide (0 ≤ c.I)) then (bif (decide (c.I < (b.L.length : Int))) then (call1 (w_eqPilotService [((a.L.getD c.I.toNat []).getD 0 .nil), ((a.L.getD c.I.toNat []).getD 1 .nil), ((b.L.getD c.I.toNat []).getD 0 .nil), ((b.L.getD c.I.toNat []).getD 1 .nil)]) fun d => (bif (!d.B) then (some (.ret [.b false])) else (some (.again [a, b, .i (w64 (c.I + 1))])))) else none) else none) else none) else none) else (some (.brk 0 [])))
def w_eqPilotServiceS.d2 : R := (some (.ret [.b true]))
def w_eqPilotServiceS.d3 (a b : C) : R := (bif ((a.L.length : Int) != (b.L.length : Int)) then (some (.ret [.b false])) else (bindBlk 0 (lim (ap3 w_eqPilotServiceS.d1) [a, b, .i 0]) (fun xs => w_eqPilotServiceS.d2)))
def w_eqPilotServiceS : List C → Option (List C) := fun xs => finR (ap2 w_eqPilotServiceS.d3 xs)
def w_eqPilotServiceS_fs : FS := ⟨2, ⟨[(0, (zl 84)), (1, (zl 84))], []⟩, ⟨[(0, zo)], []⟩, [], w_eqPilotServiceS⟩
theorem w_eqPilotServiceS_ok : FSOk Tryz.checked.prog T0 44 w_eqPilotServiceS_fs := okOf base0 (fn := Tryz.f44) (c := Tryz.f44.body.getD .skip) w_eqPilotServiceS_fs (.seq .leaf (.seq .leaf (.seq (.seq .leaf (.block ⟨[], []⟩ (.loop ⟨[(0, (zl 84)), (1, (zl 84)), (5, zi)], []⟩ .leaf))) .leaf))) [(80, some 25, w_eqPilotService_fs)] (.cons w_eqPilotService_ok .nil) (by kernel_rfl) (by kernel_rfl) (by kernel_rfl) (fun xs => by kernel_rfl)
def w_eqPilotLike.d1 (a b c d : C) : R := (bif (!(a.S.toList == c.S.toList)) then (some (.ret [.b false])) else (bif (b.I != d.I) then (some (.ret [.b false])) else (some (.ret [.b true]))))
def w_eqPilotLike : List C → Option (List C) := fun xs => finR (ap4 w_eqPilotLike.d1 xs)
def w_eqPilotLike_fs : FS := ⟨2, ⟨[(0, (.ag [zt, zi])), (1, (.ag [zt, zi]))], []⟩, ⟨[(0, zo)], []⟩, [], w_eqPilotLike⟩
theorem w_eqPilotLike_ok : FSOk Tryz.checked.prog T0 124 w_eqPilotLike_fs := okOf base0 (fn := Tryz.f124) (c := Tryz.f124.body.getD .skip) w_eqPilotLike_fs .leaf [] .nil (by kernel_rfl) (by kernel_rfl) (by kernel_rfl) (fun xs => by kernel_rfl)
def w_eqPilotLikeS.d1 (a b c : C) : R := (bif (decide (c.I < (a.L.length : Int))) then (bif (decide (0 ≤ c.I)) then (bif (decide (c.I < (a.L.length : Int))) then (bif (decide (0 ≤ c.I)) then (bif (decide (c.I < (b.L.length : Int))) then (call1 (w_eqPilotLike [((a.L.getD c.I.toNat []).getD 0 .nil), ((a.L.getD c.I.toNat []).getD 1 .nil), ((b.L.getD c.I.toNat []).getD 0 .nil), ((b.L.getD c.I.toNat []).getD 1 .nil)]) fun d => (bif (!d.B) then (some (.ret [.b false])) else (some (.again [a, b, .i (w64 (c.I + 1))])))) else none) else none) else none) else none) else (some (.brk 0 [])))
def w_eqPilotLikeS.d2 : R := (some (.ret [.b true]))
def w_eqPilotLikeS.d3 (a b : C) : R := (bif ((a.L.length : Int) != (b.L.length : Int)) then (some (.ret [.b false])) else (bindBlk 0 (lim (ap3 w_eqPilotLikeS.d1) [a, b, .i 0]) (fun xs => w_eqPilotLikeS.d2)))
def w_eqPilotLikeS : List C → Option (List C) := fun xs => finR (ap2 w_eqPilotLikeS.d3 xs)
def w_eqPilotLikeS_fs : FS := ⟨2, ⟨[(0, (zl 111)), (1, (zl 111))], []⟩, ⟨[(0, zo)], []⟩, [], w_eqPilotLikeS⟩
theorem w_eqPilotLikeS_ok : FSOk Tryz.checked.prog T0 105 w_eqPilotLikeS_fs := okOf base0 (fn := Tryz.f105) (c := Tryz.f105.body.getD .skip) w_eqPilotLikeS_fs (.seq .leaf (.seq .leaf (.seq (.seq .leaf (.block ⟨[], []⟩ (.loop ⟨[(0, (zl 111)), (1, (zl 111)), (5, zi)], []⟩ .leaf))) .leaf))) [(124, some 25, w_eqPilotLike_fs)] (.cons w_eqPilotLike_ok .nil) (by kernel_rfl) (by kernel_rfl) (by kernel_rfl) (fun xs => by kernel_rfl)
def w_eqPilotCopy.d1 (a b c d e f g h i j k l m n o p q r s t u v w x : C) : R := (bif (!(a.S.toList == m.S.toList)) then (some (.ret [.b false])) else (bif (!(b.S.toList == n.S.toList)) then (some (.ret [.b false])) else (bif (c.I != o.I) then (some (.ret [.b false])) else (bif (d.I != p.I) then (some (.ret [.b false])) else (bif (e.I != q.I) then (some (.ret [.b false])) else (bif (f.I != r.I) then (some (.ret [.b false])) else (bif (!(g.S.toList == s.S.toList)) then (some (.ret [.b false])) else (call1 (w_eqPilotLikeS [h, t]) fun y => (bif (!y.B) then (some (.ret [.b false])) else (bif (i.I != u.I) then (some (.ret [.b false])) else (bif (!(j.S.toList == v.S.toList)) then (some (.ret [.b false])) else (bif (!(k.S.toList == w.S.toList)) then (some (.ret [.b false])) else (bif (!(l.S.toList == x.S.toList)) then (some (.ret [.b false])) else (some (.ret [.b true])))))))))))))))
def w_eqPilotCopy : List C → Option (List C) := fun xs => finR (ap24 w_eqPilotCopy.d1 xs)
def w_eqPilotCopy_fs : FS := ⟨2, ⟨[(0, z4), (1, z4)], []⟩, ⟨[(0, zo)], []⟩, [], w_eqPilotCopy⟩
theorem w_eqPilotCopy_ok : FSOk Tryz.checked.prog T0 81 w_eqPilotCopy_fs := okOf base0 (fn := Tryz.f81) (c := Tryz.f81.body.getD .skip) w_eqPilotCopy_fs .leaf [(105, some 44, w_eqPilotLikeS_fs)] (.cons w_eqPilotLikeS_ok .nil) (by kernel_rfl) (by kernel_rfl) (by kernel_rfl) (fun xs => by kernel_rfl)
def w_eqPilotCopyS.d1 (a b c : C) : R := (bif (decide (c.I < (a.L.length : Int))) then (bif (decide (0 ≤ c.I)) then (bif (decide (c.I < (a.L.length : Int))) then (bif (decide (0 ≤ c.I)) then (bif (decide (c.I < (b.L.length : Int))) then (call1 (w_eqPilotCopy [((a.L.getD c.I.toNat []).getD 0 .nil), ((a.L.getD c.I.toNat []).getD 1 .nil), ((a.L.getD c.I.toNat []).getD 2 .nil), ((a.L.getD c.I.toNat []).getD 3 .nil), ((a.L.getD c.I.toNat []).getD 4 .nil), ((a.L.getD c.I.toNat []).getD 5 .nil), ((a.L.getD c.I.toNat []).getD 6 .nil), ((a.L.getD c.I.toNat []).getD 7 .nil), ((a.L.getD c.I.toNat []).getD 8 .nil), ((a.L.getD c.I.toNat []).getD 9 .nil), ((a.L.getD c.I.toNat []).getD 10 .nil), ((a.L.getD c.I.toNat []).getD 11 .nil), ((b.L.getD c.I.toNat []).getD 0 .nil), ((b.L.getD c.I.toNat []).getD 1 .nil), ((b.L.getD c.I.toNat []).getD 2 .nil), ((b.L.getD c.I.toNat []).getD 3 .nil), ((b.L.getD c.I.toNat []).getD 4 .nil), ((b.L.getD c.I.toNat []).getD 5 .nil), ((b.L.getD c.I.toNat []).getD 6 .nil), ((b.L.getD c.I.toNat []).getD 7 .nil), ((b.L.getD c.I.toNat []).getD 8 .nil), ((b.L.getD c.I.toNat []).getD 9 .nil), ((b.L.getD c.I.toNat []).getD 10 .nil), ((b.L.getD c.I.toNat []).getD 11 .nil)]) fun d => (bif (!d.B) then (some (.ret [.b false])) else (some (.again [a, b, .i (w64 (c.I + 1))])))) else none) else none) else none) else none) else (some (.brk 0 [])))
def w_eqPilotCopyS.d2 : R := (some (.ret [.b true]))
def w_eqPilotCopyS.d3 (a b : C) : R := (bif ((a.L.length : Int) != (b.L.length : Int)) then (some (.ret [.b false])) else (bindBlk 0 (lim (ap3 w_eqPilotCopyS.d1) [a, b, .i 0]) (fun xs => w_eqPilotCopyS.d2)))
def w_eqPilotCopyS : List C → Option (List C) := fun xs => finR (ap2 w_eqPilotCopyS.d3 xs)
def w_eqPilotCopyS_fs : FS := ⟨2, ⟨[(0, (zl 63)), (1, (zl 63))], []⟩, ⟨[(0, zo)], []⟩, [], w_eqPilotCopyS⟩
theorem w_eqPilotCopyS_ok : FSOk Tryz.checked.prog T0 45 w_eqPilotCopyS_fs := okOf base0 (fn := Tryz.f45) (c := Tryz.f45.body.getD .skip) w_eqPilotCopyS_fs (.seq .leaf (.seq .leaf (.seq (.seq .leaf (.block ⟨[], []⟩ (.loop ⟨[(0, (zl 63)), (1, (zl 63)), (5, zi)], []⟩ .leaf))) .leaf))) [(81, some 25, w_eqPilotCopy_fs)] (.cons w_eqPilotCopy_ok .nil) (by kernel_rfl) (by kernel_rfl) (by kernel_rfl) (fun xs => by kernel_rfl)
def w_eqPilotFleet.d1 (a b c d e f g h : C) : R := (bif (!(a.B == e.B)) then (some (.ret [.b false])) else (call1 (w_eqPilotBerthS [b, f]) fun i => (bif (!i.B) then (some (.ret [.b false])) else (call1 (w_eqPilotServiceS [c, g]) fun j => (bif (!j.B) then (some (.ret [.b false])) else (call1 (w_eqPilotCopyS [d, h]) fun k => (bif (!k.B) then (some (.ret [.b false])) else (some (.ret [.b true])))))))))
def w_eqPilotFleet : List C → Option (List C) := fun xs => finR (ap8 w_eqPilotFleet.d1 xs)
def w_eqPilotFleet_fs : FS := ⟨2, ⟨[(0, z2), (1, z2)], []⟩, ⟨[(0, zo)], []⟩, [], w_eqPilotFleet⟩
theorem w_eqPilotFleet_ok : FSOk Tryz.checked.prog T0 15 w_eqPilotFleet_fs := okOf base0 (fn := Tryz.f15) (c := Tryz.f15.body.getD .skip) w_eqPilotFleet_fs .leaf [(43, some 14, w_eqPilotBerthS_fs), (44, some 20, w_eqPilotServiceS_fs), (45, some 26, w_eqPilotCopyS_fs)] (.cons w_eqPilotBerthS_ok (.cons w_eqPilotServiceS_ok (.cons w_eqPilotCopyS_ok .nil))) (by kernel_rfl) (by kernel_rfl) (by kernel_rfl) (fun xs => by kernel_rfl)
end
end Go.Ev
