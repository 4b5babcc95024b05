-- PRINTED BY print.sh 35421559b90ae4d0a3588c463048766b98c2df88dd9212a6774a882060cdf62d: not written by this session
import Derived.Test.YtehlmkgldcfciaaGreatWWords
import Derived.Test.YtehlmkgldcfciaaGreatWLast
import Derived.Test.YtehlmkgldcfciaaGreatWQPut
import Derived.Test.YtehlmkgldcfciaaGreatWApart
import Derived.Test.YtehlmkgldcfciaaGreatWZeros
import Derived.Test.YtehlmkgldcfciaaGreatWFoot
import Derived.Test.YtehlmkgldcfciaaGreatWKept
import Derived.Test.YtehlmkgldcfciaaGreatWNEv
namespace Go.Proofs.YtehlmkgldcfciaaGreatW.PrintMore
open Go.RowKit Go.Proofs.YtehlmkgldcfciaaGreatW.PrintWords
namespace Kd
open Go.Proofs.YtehlmkgldcfciaaGreatW.PrintWords.Kd
end Kd
namespace Kd
open Go.Proofs.YtehlmkgldcfciaaGreatW.PrintWords.Kd
section
variable {α : Type} {d : Kd α} {e base g N : Nat} {ok : Nat → Prop} {W w1 : World} {u v : Value} {xs : List α}
end
end Kd
end Go.Proofs.YtehlmkgldcfciaaGreatW.PrintMore
namespace Go.Proofs.YtehlmkgldcfciaaGreatW.PrintWords
open Go.RowKit
section
variable {P : Program} {ops : Array Oper} {rest : List Oper} {o : Oper} {a : Act} {Q : Exit → Act → World → Prop} {W : World}
theorem gate_builtin {b : Builtin} {xs : Array Operand} {ts : Array TypeId} (_ho : o.op = .call { callee := .builtin b, args := xs, argTypes := ts }) (h : wpList P ops Q (o :: rest) a W) : wpList P ops Q (o :: rest) a W := h
end
namespace Kd
section
variable {α : Type} {d : Kd α} {e base : Nat} {ok : Nat → Prop} {W w1 : World} {v : Value} {xs : List α}
end
section
variable {α : Type} {d : Kd α} {e base g n cap : Nat} {ok oki okp : Nat → Prop} {W : World} {xs : List α} {i : Int} {c : List Value}
end
section
variable {α : Type} {d : Kd α} {e base b b' g N : Nat} {ok ok1 : Nat → Prop} {W W2 w1 : World} {u v : Value} {xs ys : List α} {S : Nat → Prop}
end
end Kd
end Go.Proofs.YtehlmkgldcfciaaGreatW.PrintWords
namespace Go.Proofs.YtehlmkgldcfciaaGreatW.PrintWords
open Go.RowKit
namespace Kd
def V {α : Type} (d : Kd α) (_e : Nat) (W : World) (_base : Nat) (ok : Nat → Prop) (v : Value) (xs : List α) : Prop := ∃ A c, v = .slice A xs.length c ∧ xs.length ≤ c ∧ F d W ok A xs.length xs
section
variable {α β : Type} {d : Kd α} {e base base' n m c g N' lo hi : Nat} {ok ok' S : Nat → Prop} {w W w1 : World} {A : Option Addr} {ad : Addr} {u v v1 : Value} {xs : List α}
end
end Kd
end Go.Proofs.YtehlmkgldcfciaaGreatW.PrintWords
