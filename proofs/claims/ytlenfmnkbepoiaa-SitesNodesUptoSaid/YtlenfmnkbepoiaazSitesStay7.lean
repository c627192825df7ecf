/-
  SitesStay: texts of this claim, put together by a program of this session. No conditions beyond what each lemma says.
-/
import Derived.Test.YtlenfmnkbepoiaazSitesStay0
import Derived.Test.YtlenfmnkbepoiaazSitesStay1
import Derived.Test.YtlenfmnkbepoiaazSitesStay3
namespace Go.Proofs.YtlenfmnkbepoiaaW.PrintLast
open Go.Proofs.YtlenfmnkbepoiaaW.PrintWords (Aside0)
section
variable {md : Region.Mode} {ops : Array Oper} {T : Bool × List (List Nat × List Nat)} {l l' li lj lk : Array Bool} {ds : List Nat} {i j k : Nat}
end
end Go.Proofs.YtlenfmnkbepoiaaW.PrintLast
namespace Go.Proofs.YtlenfmnkbepoiaaW.PrintLast
section
variable {P : Program} {ops : Array Oper} {Q : Exit → Act → World → Prop} {md : Region.Mode} {S : World → Prop} {ds : List Nat} {T : Bool × List (List Nat × List Nat)}
end
end Go.Proofs.YtlenfmnkbepoiaaW.PrintLast
namespace Go.Proofs.YtlenfmnkbepoiaaW.PrintWords
open Go.RowKit
namespace Kd
section
variable {α : Type} {d : Kd α} {W : World} {g n : Nat} {S ok : Nat → Prop} {A : Option Addr} {ad : Addr} {xs : List α}
end
end Kd
end Go.Proofs.YtlenfmnkbepoiaaW.PrintWords
