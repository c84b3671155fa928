/- Short forms in which the readings of code are printed. -/
import Derived.Test.YtmglifmopjedbaaGreatBrCode
namespace Go.Br
open Go
@[irreducible] def RDI (P : Program) (s : Sem Value) (k : IntKind) (w : World) (K : Int -> Prop) : Prop:=RD P s w fun v => ∃ x : Int,v = .int k x /\ K x
@[irreducible] def RDB (P : Program) (s : Sem Value) (w : World) (K : Bool -> Prop) : Prop:=RD P s w fun v => ∃ x : Bool,v = .bool x /\ K x
@[irreducible] def RDT (P : Program) (s : Sem Value) (w : World) (K : ByteArray -> Prop) : Prop:=RD P s w fun v => ∃ x : ByteArray,v = .string x /\ K x
@[irreducible] def RDP (P : Program) (s : Sem Value) (w : World) (K : Option Addr -> Prop) : Prop:=RD P s w fun v => ∃ x : Option Addr,v = .pointer x /\ K x
@[irreducible] def RDL (P : Program) (s : Sem Value) (w : World) (K : Option Addr -> Nat -> Nat -> Prop) : Prop:=RD P s w fun v => ∃ (x : Option Addr) (n c : Nat),v = .slice x n c /\ K x n c
@[irreducible] def RDSI (P : Program) (s : Sem Value) (k : IntKind) (S : World -> Prop) (K : Int -> Prop) : Prop:=RDS P s S fun v => ∃ x : Int,v = .int k x /\ K x
@[irreducible] def RDSB (P : Program) (s : Sem Value) (S : World -> Prop) (K : Bool -> Prop) : Prop:=RDS P s S fun v => ∃ x : Bool,v = .bool x /\ K x
@[irreducible] def RDST (P : Program) (s : Sem Value) (S : World -> Prop) (K : ByteArray -> Prop) : Prop:=RDS P s S fun v => ∃ x : ByteArray,v = .string x /\ K x
@[irreducible] def RDSP (P : Program) (s : Sem Value) (S : World -> Prop) (K : Option Addr -> Prop) : Prop:=RDS P s S fun v => ∃ x : Option Addr,v = .pointer x /\ K x
@[irreducible] def RDSL (P : Program) (s : Sem Value) (S : World -> Prop) (K : Option Addr -> Nat -> Nat -> Prop) : Prop:=RDS P s S fun v => ∃ (x : Option Addr) (n c : Nat),v = .slice x n c /\ K x n c
@[irreducible] def RUNA (P : Program) (s : Sem Value) (w : World) (K : Addr -> World -> Prop) : Prop:=RUN P s w fun v w' => ∃ a : Addr,v = .pointer (some a) /\ K a w'
@[irreducible] def RUNI (P : Program) (s : Sem Value) (k : IntKind) (w : World) (K : Int -> World -> Prop) : Prop:=RUN P s w fun v w' => ∃ x : Int,v = .int k x /\ K x w'
@[irreducible] def RUNL (P : Program) (s : Sem Value) (w : World) (K : Option Addr -> Nat -> Nat -> World -> Prop) : Prop:=RUN P s w fun v w' => ∃ (x : Option Addr) (n c : Nat),v = .slice x n c /\ K x n c w'
theorem exi {α : Type} {p : α -> Prop} (a : α) (h : p a) : ∃ x,p x:=⟨a,h⟩
theorem exr {α : Type} {v : α} {R : Prop} (h : R) : v = v /\ R:=⟨rfl,h⟩
end Go.Br
