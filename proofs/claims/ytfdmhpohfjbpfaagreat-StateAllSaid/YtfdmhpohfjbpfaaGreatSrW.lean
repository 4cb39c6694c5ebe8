import Derived.Test.YtfdmhpohfjbpfaaGreatRows
import Derived.WalkKit
import Derived.ProofKit
import Derived.Below
import Derived.Lib.Hide
import Derived.Handy
set_option linter.unusedVariables false
set_option linter.unusedSimpArgs false
namespace Go.Proofs.YtfdmhpohfjbpfaaGreat
open Go
theorem h_{P:Prop}(h:P):RowKit.Hid P:=Lib.hid h
theorem o_{P:Prop}(h:P:=by omega):P:=h
theorem k_{P:Prop}(h:P:=by kernel_rfl):P:=h
theorem d_{P:Prop}(h:P:=by decide):P:=h
theorem n_{n:Nat}:n≤ n:=Nat.le_refl n
theorem b_{w:World}{n:Nat}:RowKit.Below n w w:=RowKit.Below.refl n w
inductive Tk|mk
abbrev B(x:UInt8):Value:=.int .u8 (x.toNat:Int)
def vs2(a0:Option Addr)(n0 c0:Nat)(a1:Option Addr)(n1 c1:Nat):Tk:=.mk
instance{a0:Option Addr}{n0 c0:Nat}{a1:Option Addr}{n1 c1:Nat}:CoeDep Tk (vs2 a0 n0 c0 a1 n1 c1) (Array Value):=⟨#[.slice a0 n0 c0,.slice a1 n1 c1]⟩
instance{a0:Option Addr}{n0 c0:Nat}{a1:Option Addr}{n1 c1:Nat}:CoeDep Tk (vs2 a0 n0 c0 a1 n1 c1) (List Value):=⟨[.slice a0 n0 c0,.slice a1 n1 c1]⟩
def gW(x0 x1 x2 x3:Int)(x4:Bool):Tk:=.mk
instance{x0 x1 x2 x3:Int}{x4:Bool}:CoeDep Tk (gW x0 x1 x2 x3 x4) (Array Value):=⟨#[.int .i64 x0,.int .i64 x1,.int .i64 x2,.int .i64 x3,.bool x4]⟩
instance{x0 x1 x2 x3:Int}{x4:Bool}:CoeDep Tk (gW x0 x1 x2 x3 x4) (List Value):=⟨[.int .i64 x0,.int .i64 x1,.int .i64 x2,.int .i64 x3,.bool x4]⟩
def mh(x0 x1 x2 x3 x4:Int):Tk:=.mk
instance{x0 x1 x2 x3 x4:Int}:CoeDep Tk (mh x0 x1 x2 x3 x4) (Array Value):=⟨#[.int .i64 x0,.int .i64 x1,.int .i64 x2,.int .i64 x3,.int .i64 x4]⟩
instance{x0 x1 x2 x3 x4:Int}:CoeDep Tk (mh x0 x1 x2 x3 x4) (List Value):=⟨[.int .i64 x0,.int .i64 x1,.int .i64 x2,.int .i64 x3,.int .i64 x4]⟩
def xd(x0 x1 x2 x3 x4 x5 x6:Int):Tk:=.mk
instance{x0 x1 x2 x3 x4 x5 x6:Int}:CoeDep Tk (xd x0 x1 x2 x3 x4 x5 x6) (Array Value):=⟨#[.int .i64 x0,.int .i64 x1,.int .i64 x2,.int .i64 x3,.int .i64 x4,.int .i64 x5,.int .i64 x6]⟩
instance{x0 x1 x2 x3 x4 x5 x6:Int}:CoeDep Tk (xd x0 x1 x2 x3 x4 x5 x6) (List Value):=⟨[.int .i64 x0,.int .i64 x1,.int .i64 x2,.int .i64 x3,.int .i64 x4,.int .i64 x5,.int .i64 x6]⟩
def GY(x0 x1 x2 x3 x4 x5 x6 x7:Int):Tk:=.mk
instance{x0 x1 x2 x3 x4 x5 x6 x7:Int}:CoeDep Tk (GY x0 x1 x2 x3 x4 x5 x6 x7) (Array Value):=⟨#[.int .i64 x0,.int .i64 x1,.int .i64 x2,.int .i64 x3,.int .i64 x4,.int .i64 x5,.int .i64 x6,.int .i64 x7]⟩
instance{x0 x1 x2 x3 x4 x5 x6 x7:Int}:CoeDep Tk (GY x0 x1 x2 x3 x4 x5 x6 x7) (List Value):=⟨[.int .i64 x0,.int .i64 x1,.int .i64 x2,.int .i64 x3,.int .i64 x4,.int .i64 x5,.int .i64 x6,.int .i64 x7]⟩
def Kf(x0 x1:Int):Tk:=.mk
instance{x0 x1:Int}:CoeDep Tk (Kf x0 x1) (Array Value):=⟨#[.int .i64 x0,.int .i64 x1]⟩
instance{x0 x1:Int}:CoeDep Tk (Kf x0 x1) (List Value):=⟨[.int .i64 x0,.int .i64 x1]⟩
def vi3(x0 x1 x2:Int):Tk:=.mk
instance{x0 x1 x2:Int}:CoeDep Tk (vi3 x0 x1 x2) (Array Value):=⟨#[.int .i64 x0,.int .i64 x1,.int .i64 x2]⟩
instance{x0 x1 x2:Int}:CoeDep Tk (vi3 x0 x1 x2) (List Value):=⟨[.int .i64 x0,.int .i64 x1,.int .i64 x2]⟩
def Mt:Tk:=.mk
instance:CoeDep Tk Mt (Array Value):=⟨#[.int .i64 0,.int .i64 0,.int .i64 0,.int .i64 0,.bool false]⟩
instance:CoeDep Tk Mt (List Value):=⟨[.int .i64 0,.int .i64 0,.int .i64 0,.int .i64 0,.bool false]⟩
def Bp(a0:Option Addr)(n0 c0:Nat)(x1:Int):Tk:=.mk
instance{a0:Option Addr}{n0 c0:Nat}{x1:Int}:CoeDep Tk (Bp a0 n0 c0 x1) (Array Value):=⟨#[.slice a0 n0 c0,.int .i64 x1]⟩
instance{a0:Option Addr}{n0 c0:Nat}{x1:Int}:CoeDep Tk (Bp a0 n0 c0 x1) (List Value):=⟨[.slice a0 n0 c0,.int .i64 x1]⟩
def WS(x0:Int)(x1:Bool):Tk:=.mk
instance{x0:Int}{x1:Bool}:CoeDep Tk (WS x0 x1) (Array Value):=⟨#[.int .i64 x0,.bool x1]⟩
instance{x0:Int}{x1:Bool}:CoeDep Tk (WS x0 x1) (List Value):=⟨[.int .i64 x0,.bool x1]⟩
def aw(x0 x1 x2:Int)(a3:Option Addr)(n3 c3:Nat)(a4:Option Addr)(n4 c4:Nat)(a5:Option Addr)(n5 c5:Nat)(a6:Option Addr)(n6 c6:Nat):Tk:=.mk
instance{x0 x1 x2:Int}{a3:Option Addr}{n3 c3:Nat}{a4:Option Addr}{n4 c4:Nat}{a5:Option Addr}{n5 c5:Nat}{a6:Option Addr}{n6 c6:Nat}:CoeDep Tk (aw x0 x1 x2 a3 n3 c3 a4 n4 c4 a5 n5 c5 a6 n6 c6) (Array Value):=⟨#[.int .i64 x0,.int .i64 x1,.int .i64 x2,.slice a3 n3 c3,.slice a4 n4 c4,.slice a5 n5 c5,.slice a6 n6 c6]⟩
instance{x0 x1 x2:Int}{a3:Option Addr}{n3 c3:Nat}{a4:Option Addr}{n4 c4:Nat}{a5:Option Addr}{n5 c5:Nat}{a6:Option Addr}{n6 c6:Nat}:CoeDep Tk (aw x0 x1 x2 a3 n3 c3 a4 n4 c4 a5 n5 c5 a6 n6 c6) (List Value):=⟨[.int .i64 x0,.int .i64 x1,.int .i64 x2,.slice a3 n3 c3,.slice a4 n4 c4,.slice a5 n5 c5,.slice a6 n6 c6]⟩
def aS:Tk:=.mk
instance:CoeDep Tk aS (Array Value):=⟨#[.int .i64 0,.int .i64 0,.int .i64 0,.slice none 0 0,.slice none 0 0,.slice none 0 0,.slice none 0 0]⟩
instance:CoeDep Tk aS (List Value):=⟨[.int .i64 0,.int .i64 0,.int .i64 0,.slice none 0 0,.slice none 0 0,.slice none 0 0,.slice none 0 0]⟩
def uk(a0:Option Addr)(n0 c0:Nat)(x1 x2:Int):Tk:=.mk
instance{a0:Option Addr}{n0 c0:Nat}{x1 x2:Int}:CoeDep Tk (uk a0 n0 c0 x1 x2) (Array Value):=⟨#[.slice a0 n0 c0,.int .i64 x1,.int .i64 x2]⟩
instance{a0:Option Addr}{n0 c0:Nat}{x1 x2:Int}:CoeDep Tk (uk a0 n0 c0 x1 x2) (List Value):=⟨[.slice a0 n0 c0,.int .i64 x1,.int .i64 x2]⟩
def vsis(a0:Option Addr)(n0 c0:Nat)(x1:Int)(a2:Option Addr)(n2 c2:Nat):Tk:=.mk
instance{a0:Option Addr}{n0 c0:Nat}{x1:Int}{a2:Option Addr}{n2 c2:Nat}:CoeDep Tk (vsis a0 n0 c0 x1 a2 n2 c2) (Array Value):=⟨#[.slice a0 n0 c0,.int .i64 x1,.slice a2 n2 c2]⟩
instance{a0:Option Addr}{n0 c0:Nat}{x1:Int}{a2:Option Addr}{n2 c2:Nat}:CoeDep Tk (vsis a0 n0 c0 x1 a2 n2 c2) (List Value):=⟨[.slice a0 n0 c0,.int .i64 x1,.slice a2 n2 c2]⟩
def dB:Tk:=.mk
instance:CoeDep Tk dB (Array Value):=⟨#[.int .i64 0,.int .i64 0,.int .i64 0,.int .i64 0,.int .i64 0]⟩
instance:CoeDep Tk dB (List Value):=⟨[.int .i64 0,.int .i64 0,.int .i64 0,.int .i64 0,.int .i64 0]⟩
def Cv(a0:Option Addr)(n0 c0:Nat)(x1:Int)(x2:Bool):Tk:=.mk
instance{a0:Option Addr}{n0 c0:Nat}{x1:Int}{x2:Bool}:CoeDep Tk (Cv a0 n0 c0 x1 x2) (Array Value):=⟨#[.slice a0 n0 c0,.int .i64 x1,.bool x2]⟩
instance{a0:Option Addr}{n0 c0:Nat}{x1:Int}{x2:Bool}:CoeDep Tk (Cv a0 n0 c0 x1 x2) (List Value):=⟨[.slice a0 n0 c0,.int .i64 x1,.bool x2]⟩
def cW(x0 x1 x2:Int)(x3:UInt8)(a4:Option Addr)(n4 c4:Nat):Tk:=.mk
instance{x0 x1 x2:Int}{x3:UInt8}{a4:Option Addr}{n4 c4:Nat}:CoeDep Tk (cW x0 x1 x2 x3 a4 n4 c4) (Array Value):=⟨#[.int .i64 x0,.int .i8 x1,.int .i64 x2,B x3,.slice a4 n4 c4]⟩
instance{x0 x1 x2:Int}{x3:UInt8}{a4:Option Addr}{n4 c4:Nat}:CoeDep Tk (cW x0 x1 x2 x3 a4 n4 c4) (List Value):=⟨[.int .i64 x0,.int .i8 x1,.int .i64 x2,B x3,.slice a4 n4 c4]⟩
def bO(x0 x1 x2 x3 x4 x5 x6 x7 x8 x9 JC:Int)(JD:Bool)(a12:Option Addr)(n12 c12:Nat):Tk:=.mk
instance{x0 x1 x2 x3 x4 x5 x6 x7 x8 x9 JC:Int}{JD:Bool}{a12:Option Addr}{n12 c12:Nat}:CoeDep Tk (bO x0 x1 x2 x3 x4 x5 x6 x7 x8 x9 JC JD a12 n12 c12) (Array Value):=⟨#[.int .i8 x0,.int .i64 x1,.int .i64 x2,.int .i64 x3,.int .i64 x4,.int .i64 x5,.int .i64 x6,.int .i64 x7,.int .i64 x8,.int .i64 x9,.int .i64 JC,.bool JD,.slice a12 n12 c12]⟩
instance{x0 x1 x2 x3 x4 x5 x6 x7 x8 x9 JC:Int}{JD:Bool}{a12:Option Addr}{n12 c12:Nat}:CoeDep Tk (bO x0 x1 x2 x3 x4 x5 x6 x7 x8 x9 JC JD a12 n12 c12) (List Value):=⟨[.int .i8 x0,.int .i64 x1,.int .i64 x2,.int .i64 x3,.int .i64 x4,.int .i64 x5,.int .i64 x6,.int .i64 x7,.int .i64 x8,.int .i64 x9,.int .i64 JC,.bool JD,.slice a12 n12 c12]⟩
def fC:Tk:=.mk
instance:CoeDep Tk fC (Array Value):=⟨#[.int .i8 0,.int .i64 0,.int .i64 0,.int .i64 0,.int .i64 0,.int .i64 0,.int .i64 0,.int .i64 0,.int .i64 0,.int .i64 0,.int .i64 0,.bool false,.slice none 0 0]⟩
instance:CoeDep Tk fC (List Value):=⟨[.int .i8 0,.int .i64 0,.int .i64 0,.int .i64 0,.int .i64 0,.int .i64 0,.int .i64 0,.int .i64 0,.int .i64 0,.int .i64 0,.int .i64 0,.bool false,.slice none 0 0]⟩
def Py(a0:Option Addr)(n0 c0:Nat)(x1 x2 x3 x4:Int):Tk:=.mk
instance{a0:Option Addr}{n0 c0:Nat}{x1 x2 x3 x4:Int}:CoeDep Tk (Py a0 n0 c0 x1 x2 x3 x4) (Array Value):=⟨#[.slice a0 n0 c0,.int .i64 x1,.int .i64 x2,.int .i64 x3,.int .i64 x4]⟩
instance{a0:Option Addr}{n0 c0:Nat}{x1 x2 x3 x4:Int}:CoeDep Tk (Py a0 n0 c0 x1 x2 x3 x4) (List Value):=⟨[.slice a0 n0 c0,.int .i64 x1,.int .i64 x2,.int .i64 x3,.int .i64 x4]⟩
def vis(x0:Int)(a1:Option Addr)(n1 c1:Nat):Tk:=.mk
instance{x0:Int}{a1:Option Addr}{n1 c1:Nat}:CoeDep Tk (vis x0 a1 n1 c1) (Array Value):=⟨#[.int .i64 x0,.slice a1 n1 c1]⟩
instance{x0:Int}{a1:Option Addr}{n1 c1:Nat}:CoeDep Tk (vis x0 a1 n1 c1) (List Value):=⟨[.int .i64 x0,.slice a1 n1 c1]⟩
def vi4(x0 x1 x2 x3:Int):Tk:=.mk
instance{x0 x1 x2 x3:Int}:CoeDep Tk (vi4 x0 x1 x2 x3) (Array Value):=⟨#[.int .i64 x0,.int .i64 x1,.int .i64 x2,.int .i64 x3]⟩
instance{x0 x1 x2 x3:Int}:CoeDep Tk (vi4 x0 x1 x2 x3) (List Value):=⟨[.int .i64 x0,.int .i64 x1,.int .i64 x2,.int .i64 x3]⟩
def Ty:Tk:=.mk
instance:CoeDep Tk Ty (Array Value):=⟨#[.int .i64 0,.int .i64 0,.int .i64 0,.int .i64 0,.int .i64 0,.int .i64 0,.int .i64 0,.int .i64 0]⟩
instance:CoeDep Tk Ty (List Value):=⟨[.int .i64 0,.int .i64 0,.int .i64 0,.int .i64 0,.int .i64 0,.int .i64 0,.int .i64 0,.int .i64 0]⟩
def VP:Tk:=.mk
instance:CoeDep Tk VP (Array Value):=⟨#[.slice none 0 0,.int .i64 0,.bool false]⟩
instance:CoeDep Tk VP (List Value):=⟨[.slice none 0 0,.int .i64 0,.bool false]⟩
def WT:Tk:=.mk
instance:CoeDep Tk WT (Array Value):=⟨#[.int .i64 0,.int .i64 0,.int .i64 0,.int .i64 0,.int .i64 0,.int .i64 0,.int .i64 0]⟩
instance:CoeDep Tk WT (List Value):=⟨[.int .i64 0,.int .i64 0,.int .i64 0,.int .i64 0,.int .i64 0,.int .i64 0,.int .i64 0]⟩
def zi2:Tk:=.mk
instance:CoeDep Tk zi2 (Array Value):=⟨#[.int .i64 0,.int .i64 0]⟩
instance:CoeDep Tk zi2 (List Value):=⟨[.int .i64 0,.int .i64 0]⟩
def EF:Tk:=.mk
instance:CoeDep Tk EF (Array Value):=⟨#[.int .i64 0,.int .i64 0,.int .i64 0,.int .i64 0,.int .i64 0,.int .i64 0,.int .i64 0,.int .i64 0,.int .i64 0,.int .i64 0]⟩
instance:CoeDep Tk EF (List Value):=⟨[.int .i64 0,.int .i64 0,.int .i64 0,.int .i64 0,.int .i64 0,.int .i64 0,.int .i64 0,.int .i64 0,.int .i64 0,.int .i64 0]⟩
def Bc(x0 x1 x2 x3 x4 x5 x6 x7 x8 x9:Int):Tk:=.mk
instance{x0 x1 x2 x3 x4 x5 x6 x7 x8 x9:Int}:CoeDep Tk (Bc x0 x1 x2 x3 x4 x5 x6 x7 x8 x9) (Array Value):=⟨#[.int .i64 x0,.int .i64 x1,.int .i64 x2,.int .i64 x3,.int .i64 x4,.int .i64 x5,.int .i64 x6,.int .i64 x7,.int .i64 x8,.int .i64 x9]⟩
instance{x0 x1 x2 x3 x4 x5 x6 x7 x8 x9:Int}:CoeDep Tk (Bc x0 x1 x2 x3 x4 x5 x6 x7 x8 x9) (List Value):=⟨[.int .i64 x0,.int .i64 x1,.int .i64 x2,.int .i64 x3,.int .i64 x4,.int .i64 x5,.int .i64 x6,.int .i64 x7,.int .i64 x8,.int .i64 x9]⟩
def gq(x0 x1 x2:Int)(x3:UInt8)(a4:Option Addr)(n4 c4:Nat)(x5 x6 x7:Int)(x8:UInt8)(a9:Option Addr)(n9 c9:Nat)(JC JD Tx:Int)(x13:UInt8)(a14:Option Addr)(n14 c14:Nat)(x15 x16 x17:Int)(x18:UInt8)(a19:Option Addr)(n19 c19:Nat):Tk:=.mk
instance{x0 x1 x2:Int}{x3:UInt8}{a4:Option Addr}{n4 c4:Nat}{x5 x6 x7:Int}{x8:UInt8}{a9:Option Addr}{n9 c9:Nat}{JC JD Tx:Int}{x13:UInt8}{a14:Option Addr}{n14 c14:Nat}{x15 x16 x17:Int}{x18:UInt8}{a19:Option Addr}{n19 c19:Nat}:CoeDep Tk (gq x0 x1 x2 x3 a4 n4 c4 x5 x6 x7 x8 a9 n9 c9 JC JD Tx x13 a14 n14 c14 x15 x16 x17 x18 a19 n19 c19) (Array Value):=⟨#[.int .i64 x0,.int .i8 x1,.int .i64 x2,B x3,.slice a4 n4 c4,.int .i64 x5,.int .i8 x6,.int .i64 x7,B x8,.slice a9 n9 c9,.int .i64 JC,.int .i8 JD,.int .i64 Tx,B x13,.slice a14 n14 c14,.int .i64 x15,.int .i8 x16,.int .i64 x17,B x18,.slice a19 n19 c19]⟩
instance{x0 x1 x2:Int}{x3:UInt8}{a4:Option Addr}{n4 c4:Nat}{x5 x6 x7:Int}{x8:UInt8}{a9:Option Addr}{n9 c9:Nat}{JC JD Tx:Int}{x13:UInt8}{a14:Option Addr}{n14 c14:Nat}{x15 x16 x17:Int}{x18:UInt8}{a19:Option Addr}{n19 c19:Nat}:CoeDep Tk (gq x0 x1 x2 x3 a4 n4 c4 x5 x6 x7 x8 a9 n9 c9 JC JD Tx x13 a14 n14 c14 x15 x16 x17 x18 a19 n19 c19) (List Value):=⟨[.int .i64 x0,.int .i8 x1,.int .i64 x2,B x3,.slice a4 n4 c4,.int .i64 x5,.int .i8 x6,.int .i64 x7,B x8,.slice a9 n9 c9,.int .i64 JC,.int .i8 JD,.int .i64 Tx,B x13,.slice a14 n14 c14,.int .i64 x15,.int .i8 x16,.int .i64 x17,B x18,.slice a19 n19 c19]⟩
end Go.Proofs.YtfdmhpohfjbpfaaGreat
