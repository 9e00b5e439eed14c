/- Words are written and read. No condition. -/
import Derived.Test.YtimomnfobfjggaaPAvRng
import Derived.Test.YtimomnfobfjggaaPZA
set_option linter.unusedSimpArgs false
set_option linter.unusedVariables false
set_option maxHeartbeats 4000000
set_option maxRecDepth 100000
namespace Go.Proofs.Ytimomnfobfjggaa
abbrev P2:=@of_decide_eq_true
theorem MM (x:Int):0<=IntKind.u16.wrap x/\IntKind.u16.wrap x<65536:=by rw [IntKind.wrap_u16];omega
theorem dB (o:BinOp) (x y:Int):0<=bits o .u16 x y/\bits o .u16 x y<65536:=by
 unfold bits
 exact MM _
theorem Em (a:Int) (h:0<=a/\a<65536):Fn Try.prog 12 [.v (.int .u16 a)] (.v (.int .i64 (synI a))):=ML.2 (a,()) ⟨fun _=>0,fun _=>0,fun _=> .v .nilFunc⟩ h
theorem eT (a:Int) (h:0<=a/\a<65536):Fn Try.prog 13 [.v (.int .u16 a)] (.v (.bool (odW a))):=MJ.2 (a,()) ⟨fun _=>0,fun _=>0,fun _=> .v .nilFunc⟩ h
def aI (n:Nat):Int:=(kQ 4 n:Int)
theorem ck (n:Nat) (h:n<13):Fn Try.prog 16 [.v (.int .u64 (n:Int))] (.v (.int .i64 (aI n))):=by
 match n,h with
 |0,_=>exact iI iJ (k:=90) (by kernel_rfl)
 |1,_=>exact iI iJ (k:=90) (by kernel_rfl)
 |2,_=>exact iI iJ (k:=90) (by kernel_rfl)
 |3,_=>exact iI iJ (k:=90) (by kernel_rfl)
 |4,_=>exact iI iJ (k:=90) (by kernel_rfl)
 |5,_=>exact iI iJ (k:=90) (by kernel_rfl)
 |6,_=>exact iI iJ (k:=90) (by kernel_rfl)
 |7,_=>exact iI iJ (k:=90) (by kernel_rfl)
 |8,_=>exact iI iJ (k:=90) (by kernel_rfl)
 |9,_=>exact iI iJ (k:=90) (by kernel_rfl)
 |10,_=>exact iI iJ (k:=90) (by kernel_rfl)
 |11,_=>exact iI iJ (k:=90) (by kernel_rfl)
 |12,_=>exact iI iJ (k:=90) (by kernel_rfl)
theorem MN (w:Int):0<=synI w:=by unfold synI;omega
def aW (b o:Int) (i p:Int):Int:=bits .or .u16 o (IntKind.u16.wrap ((IntKind.u16.wrap (bits .and .u8 (b.fdiv (2^(min (Int.toNat i) IntKind.u8.bits))) 1))*2^(min (Int.toNat p) IntKind.u16.bits)))
def dtI (b:Int):Int:=aW b (aW b (aW b (aW b (aW b (aW b (aW b (aW b 0 0 3) 1 5) 2 6) 3 7) 4 9) 5 10) 6 11) 7 12
theorem MO (b o i p:Int):0<=aW b o i p/\aW b o i p<65536:=dB _ _ _
theorem dY (b:Int):0<=dtI b/\dtI b<65536:=by unfold dtI;exact MO _ _ _ _
def cm (s n m w:Int):Int:=if bits .and .i64 s n=0 then w else bits .or .u16 w m
def cD (b:Int):Int:=cm (synI (dtI b)) 8 256 (cm (synI (dtI b)) 4 16 (cm (synI (dtI b)) 2 4 (cm (synI (dtI b)) 1 2 (dtI b))))
def aR (b:Int):Int:=if odW (cD b)=true then bits .or .u16 (cD b) 1 else cD b
def ae (w o i p:Int):Int:=bits .or .u8 o (IntKind.u8.wrap ((IntKind.u8.wrap (bits .and .u16 (w.fdiv (2^(min (Int.toNat p) IntKind.u16.bits))) 1))*2^(min (Int.toNat i) IntKind.u8.bits)))
def ju (w:Int):Int:=ae w (ae w (ae w (ae w (ae w (ae w (ae w (ae w 0 0 3) 1 5) 2 6) 3 7) 4 9) 5 10) 6 11) 7 12
def fH (w s:Int):Int:=bits .xor .u16 w (IntKind.u16.wrap (1*2^(min (Int.toNat s) IntKind.u16.bits)))
def iu (w:Int):Int:=if 8192<=w then 0 else if odW w=true then (if synI w<13 then ju (fH w (synI w)) else 0) else if synI w=0 then ju w else 0
def b8 (w:Int):Int:=if 8192<=w then -1 else if odW w=true then (if synI w<13 then 1 else -1) else if synI w=0 then 0 else -1
section
variable (b:UInt8) (i:Int) (o:Int) (p:Int)
abbrev ah:OB:=some ⟨1,[[.v (.int .u8 (b.toNat:Int))]]⟩
abbrev MP:OB:=some ⟨1,[[.v (.int .u16 0)]]⟩
abbrev dd:OB:=some ⟨1,[[.v (.int .u16 (0:Int))]]⟩
abbrev dQ:OB:=some ⟨1,[[.v (.int .u16 (dtI (b.toNat:Int)))]]⟩
abbrev m7:OB:=some ⟨1,[[.v (.int .u16 o)]]⟩
abbrev zB:OB:=some ⟨1,[[.v (.int .u16 (aW (b.toNat:Int) o i p))]]⟩
abbrev zC:LS:=[(3,VI i),(8,VI p),(1, .ref 0 1 0 0),(2, .ref 1 1 0 0)]
abbrev sr:LS:=(11,VI i)::(10, .v (.int .u8 (b.toNat:Int)))::(9, .v (.int .u16 o))::(4,VI p)::(zC i p)
abbrev ff:OB:=some ⟨1,[[.v (.int .u16 (aW (b.toNat:Int) (0:Int) 0 3))]]⟩
abbrev jv:OB:=some ⟨1,[[.v (.int .u16 (aW (b.toNat:Int) (aW (b.toNat:Int) (0:Int) 0 3) 1 5))]]⟩
abbrev jw:OB:=some ⟨1,[[.v (.int .u16 (aW (b.toNat:Int) (aW (b.toNat:Int) (aW (b.toNat:Int) (0:Int) 0 3) 1 5) 2 6))]]⟩
abbrev fg:OB:=some ⟨1,[[.v (.int .u16 (aW (b.toNat:Int) (aW (b.toNat:Int) (aW (b.toNat:Int) (aW (b.toNat:Int) (0:Int) 0 3) 1 5) 2 6) 3 7))]]⟩
abbrev jx:OB:=some ⟨1,[[.v (.int .u16 (aW (b.toNat:Int) (aW (b.toNat:Int) (aW (b.toNat:Int) (aW (b.toNat:Int) (aW (b.toNat:Int) (0:Int) 0 3) 1 5) 2 6) 3 7) 4 9))]]⟩
abbrev jy:OB:=some ⟨1,[[.v (.int .u16 (aW (b.toNat:Int) (aW (b.toNat:Int) (aW (b.toNat:Int) (aW (b.toNat:Int) (aW (b.toNat:Int) (aW (b.toNat:Int) (0:Int) 0 3) 1 5) 2 6) 3 7) 4 9) 5 10))]]⟩
abbrev jz:OB:=some ⟨1,[[.v (.int .u16 (aW (b.toNat:Int) (aW (b.toNat:Int) (aW (b.toNat:Int) (aW (b.toNat:Int) (aW (b.toNat:Int) (aW (b.toNat:Int) (aW (b.toNat:Int) (0:Int) 0 3) 1 5) 2 6) 3 7) 4 9) 5 10) 6 11))]]⟩
abbrev oE:OB:=some ⟨1,[[.v (.int .u16 (aW (b.toNat:Int) (aW (b.toNat:Int) (aW (b.toNat:Int) (aW (b.toNat:Int) (aW (b.toNat:Int) (aW (b.toNat:Int) (aW (b.toNat:Int) (aW (b.toNat:Int) (0:Int) 0 3) 1 5) 2 6) 3 7) 4 9) 5 10) 6 11) 7 12))]]⟩
abbrev En:LS:=[(18, .v (.int .u16 (dtI (b.toNat:Int)))),(2, .ref 1 1 0 0),(1, .ref 0 1 0 0)]
abbrev vD:LS:=[(6,VI 1),(5,VI (synI (dtI (b.toNat:Int)))),(2, .ref 1 1 0 0)]
abbrev MQ:LS:=(30, .v (.int .u16 2))::(29,VI 1)::(28, .v (.int .u16 (dtI (b.toNat:Int))))::(27, .v (.bool true))::(vD b)
abbrev MR:LS:=[(30, .v (.int .u16 2)),(29,VI 1),(28, .v (.int .u16 (dtI (b.toNat:Int)))),(27, .v (.bool true)),(5,VI (synI (dtI (b.toNat:Int)))),(2, .ref 1 1 0 0)]
abbrev Eo:LS:=[(21, .v (.bool true)),(6,VI 2),(5,VI (synI (dtI (b.toNat:Int)))),(2, .ref 1 1 0 0)]
abbrev vE:LS:=[(6,VI 2),(5,VI (synI (dtI (b.toNat:Int)))),(2, .ref 1 1 0 0)]
abbrev iv:LS:=[(27, .v (.bool true)),(5,VI (synI (dtI (b.toNat:Int)))),(2, .ref 1 1 0 0)]
abbrev vF:LS:=[(21, .v (.bool true)),(6,VI 4),(5,VI (synI (dtI (b.toNat:Int)))),(2, .ref 1 1 0 0)]
abbrev m8:LS:=[(6,VI 4),(5,VI (synI (dtI (b.toNat:Int)))),(2, .ref 1 1 0 0)]
abbrev m9:LS:=[(21, .v (.bool true)),(6,VI 8),(5,VI (synI (dtI (b.toNat:Int)))),(2, .ref 1 1 0 0)]
abbrev gn:LS:=[(6,VI 8),(5,VI (synI (dtI (b.toNat:Int)))),(2, .ref 1 1 0 0)]
abbrev bN:LS:=[(21, .v (.bool false)),(6,VI 16),(5,VI (synI (dtI (b.toNat:Int)))),(2, .ref 1 1 0 0)]
abbrev na:LS:=[(6,VI 16),(23,VI 16),(22,VI 8),(27, .v (.bool false)),(5,VI (synI (dtI (b.toNat:Int)))),(2, .ref 1 1 0 0)]
abbrev vG:LS:=[(6,VI 8),(23,VI 8),(22,VI 4),(27, .v (.bool false)),(5,VI (synI (dtI (b.toNat:Int)))),(2, .ref 1 1 0 0)]
abbrev Ep:LS:=[(6,VI 4),(23,VI 4),(22,VI 2),(27, .v (.bool false)),(5,VI (synI (dtI (b.toNat:Int)))),(2, .ref 1 1 0 0)]
abbrev MS:LS:=[(6,VI 2),(23,VI 2),(22,VI 1),(27, .v (.bool false)),(5,VI (synI (dtI (b.toNat:Int)))),(2, .ref 1 1 0 0)]
abbrev MT:LS:=(30, .v (.int .u16 4))::(29,VI 2)::(28, .v (.int .u16 (dtI (b.toNat:Int))))::(27, .v (.bool true))::(vE b)
abbrev MU:LS:=(30, .v (.int .u16 4))::(29,VI 2)::(28, .v (.int .u16 (dtI (b.toNat:Int))))::(iv b)
abbrev MV:LS:=(30, .v (.int .u16 16))::(29,VI 4)::(28, .v (.int .u16 (dtI (b.toNat:Int))))::(27, .v (.bool true))::(m8 b)
abbrev MW:LS:=(30, .v (.int .u16 16))::(29,VI 4)::(28, .v (.int .u16 (dtI (b.toNat:Int))))::(iv b)
abbrev MX:LS:=(30, .v (.int .u16 256))::(29,VI 8)::(28, .v (.int .u16 (dtI (b.toNat:Int))))::(27, .v (.bool true))::(gn b)
abbrev MY:LS:=(30, .v (.int .u16 256))::(29,VI 8)::(28, .v (.int .u16 (dtI (b.toNat:Int))))::(iv b)
abbrev Er:LS:=(32, .v (.int .u16 (dtI (b.toNat:Int))))::(bN b)
abbrev MZ:LS:=[(34, .v (.int .u16 (dtI (b.toNat:Int)))),(33, .v (.bool true)),(2, .ref 1 1 0 0)]
end
theorem Es (b:UInt8):Fn Try.prog 6 [.v (.int .u8 (b.toNat:Int))] (.v (.int .u16 (aR (b.toNat:Int)))):=by
 have k0:decide ((aI 0)<2)=true:=by decide+kernel
 have k1:decide ((aI 1)<2)=true:=by decide+kernel
 have k2:decide ((aI 2)<2)=true:=by decide+kernel
 have k3:decide ((aI 3)<2)=false:=by decide+kernel
 have k4:decide ((aI 4)<2)=true:=by decide+kernel
 have k5:decide ((aI 5)<2)=false:=by decide+kernel
 have k6:decide ((aI 6)<2)=false:=by decide+kernel
 have k7:decide ((aI 7)<2)=false:=by decide+kernel
 have k8:decide ((aI 8)<2)=true:=by decide+kernel
 have k9:decide ((aI 9)<2)=false:=by decide+kernel
 have vH:decide ((aI 10)<2)=false:=by decide+kernel
 have vI:decide ((aI 11)<2)=false:=by decide+kernel
 have vJ:decide ((aI 12)<2)=false:=by decide+kernel
 refine fW Bv (P2 (by kernel_rfl)) ?_
 refine EL.aq ?_
 refine OW.last 2 [1,2] (x':=⟨[(2, .ref 1 1 0 0),(1, .ref 0 1 0 0)],[(ah b),MP]⟩) (by kernel_rfl) (by kernel_rfl) ?_
 refine EL.seq ?_
 refine EL.block ?_
 refine EL.eqv (x':=⟨[(2, .ref 1 1 0 0),(1, .ref 0 1 0 0)],[(ah b),dd]⟩) (by kernel_rfl) ?_
 refine EL.gG 2 (res:= .aK []) (f:=11) (caps:=[]) (cs:=[.dead, .ref 0 1 0 0, .ref 1 1 0 0, .dead, .dead, .dead, .dead, .dead, .dead, .dead, .dead, .dead, .dead, .dead, .dead, .dead, .dead, .dead, .dead, .dead, .dead, .dead, .dead, .dead, .dead, .dead, .dead, .dead, .dead, .dead, .dead, .dead, .dead, .dead, .dead, .dead, .dead]) (m':=[(ah b),(dQ b)]) (by kernel_rfl) (by kernel_rfl) tw (by kernel_rfl) (⟨.inl (by kernel_rfl),⟨.inl (by kernel_rfl),trivial⟩⟩) ?_ ?_
 ·intro r r1 r2 r3 r4 r5
  have HY:∀(o:Int) (i:Int) (p:Int) (h1:0<=i) (h2:0<=p),Yd Try.prog 2 r [.dead, .ref 0 1 0 0, .ref 1 1 0 0, .dead, .dead, .dead, .dead, .dead, .dead, .dead, .dead, .dead, .dead, .dead, .dead, .dead, .dead, .dead, .dead, .dead, .dead, .dead, .dead, .dead, .dead, .dead, .dead, .dead, .dead, .dead, .dead, .dead, .dead, .dead, .dead, .dead, .dead] [VI i,VI p] (look [(ah b),(m7 o)]) 2 (look [(ah b),(zB b i o p)]) 2:=by
   intro o i p h1 h2
   refine yd_walk (n:=F6.n) (m:=[(ah b),(m7 o)]) (m':=[(ah b),(zB b i o p)]) r1 r2 r3 r4 r5 (by kernel_rfl) ?_
   refine EL.aq ?_
   refine OW.last 1 [1,2,3,8] (x':=⟨(zC i p),[(ah b),(m7 o)]⟩) (by kernel_rfl) (by kernel_rfl) ?_
   refine EL.aF ?_
   refine OW.end 1 (x':=⟨(4,VI p)::(zC i p),[(ah b),(m7 o)]⟩) (by kernel_rfl) (by kernel_rfl) ?_
   refine ⟨rfl,by kernel_rfl,(⟨.inl (by kernel_rfl),⟨.inl (by kernel_rfl),trivial⟩⟩), ?_⟩
   refine EL.block ?_
   refine EL.eZ ?_
   refine DW.run 3 (x':=⟨(sr b i o p),[(ah b),(m7 o)]⟩) (by kernel_rfl) ?_
   refine DW.fB (v:= .v (.int .u8 (((b.toNat:Int)).fdiv (2^(min (Int.toNat i) IntKind.u8.bits))))) (u:=[]) (acc:=[]) (x':=⟨(12, .v (.int .u8 (((b.toNat:Int)).fdiv (2^(min (Int.toNat i) IntKind.u8.bits)))))::(sr b i o p),[(ah b),(m7 o)]⟩) (by kernel_rfl) (xe (.s 10) (.s 11) .u8 .i64 (b.toNat:Int) i (by kernel_rfl) (by kernel_rfl) (by kernel_rfl) (by kernel_rfl) (by omega)) (by kernel_rfl) ?_
   refine DW.run 3 (x':=⟨(15,VI p)::(14, .v (.int .u16 (IntKind.u16.wrap (bits .and .u8 (((b.toNat:Int)).fdiv (2^(min (Int.toNat i) IntKind.u8.bits))) 1))))::(13, .v (.int .u8 (bits .and .u8 (((b.toNat:Int)).fdiv (2^(min (Int.toNat i) IntKind.u8.bits))) 1)))::(12, .v (.int .u8 (((b.toNat:Int)).fdiv (2^(min (Int.toNat i) IntKind.u8.bits)))))::(sr b i o p),[(ah b),(m7 o)]⟩) (by kernel_rfl) ?_
   refine DW.fB (v:= .v (.int .u16 (IntKind.u16.wrap ((IntKind.u16.wrap (bits .and .u8 (((b.toNat:Int)).fdiv (2^(min (Int.toNat i) IntKind.u8.bits))) 1))*2^(min (Int.toNat p) IntKind.u16.bits))))) (u:=[]) (acc:=[]) (x':=⟨(16, .v (.int .u16 (IntKind.u16.wrap ((IntKind.u16.wrap (bits .and .u8 (((b.toNat:Int)).fdiv (2^(min (Int.toNat i) IntKind.u8.bits))) 1))*2^(min (Int.toNat p) IntKind.u16.bits)))))::(15,VI p)::(14, .v (.int .u16 (IntKind.u16.wrap (bits .and .u8 (((b.toNat:Int)).fdiv (2^(min (Int.toNat i) IntKind.u8.bits))) 1))))::(13, .v (.int .u8 (bits .and .u8 (((b.toNat:Int)).fdiv (2^(min (Int.toNat i) IntKind.u8.bits))) 1)))::(12, .v (.int .u8 (((b.toNat:Int)).fdiv (2^(min (Int.toNat i) IntKind.u8.bits)))))::(sr b i o p),[(ah b),(m7 o)]⟩) (by kernel_rfl) (tc (.s 14) (.s 15) .u16 .i64 (IntKind.u16.wrap (bits .and .u8 (((b.toNat:Int)).fdiv (2^(min (Int.toNat i) IntKind.u8.bits))) 1)) p (by kernel_rfl) (by kernel_rfl) (by kernel_rfl) (by kernel_rfl) (by omega)) (by kernel_rfl) ?_
   refine DW.end 2 (x':=⟨(17, .v (.int .u16 (bits .or .u16 o (IntKind.u16.wrap ((IntKind.u16.wrap (bits .and .u8 (((b.toNat:Int)).fdiv (2^(min (Int.toNat i) IntKind.u8.bits))) 1))*2^(min (Int.toNat p) IntKind.u16.bits))))))::(16, .v (.int .u16 (IntKind.u16.wrap ((IntKind.u16.wrap (bits .and .u8 (((b.toNat:Int)).fdiv (2^(min (Int.toNat i) IntKind.u8.bits))) 1))*2^(min (Int.toNat p) IntKind.u16.bits)))))::(15,VI p)::(14, .v (.int .u16 (IntKind.u16.wrap (bits .and .u8 (((b.toNat:Int)).fdiv (2^(min (Int.toNat i) IntKind.u8.bits))) 1))))::(13, .v (.int .u8 (bits .and .u8 (((b.toNat:Int)).fdiv (2^(min (Int.toNat i) IntKind.u8.bits))) 1)))::(12, .v (.int .u8 (((b.toNat:Int)).fdiv (2^(min (Int.toNat i) IntKind.u8.bits)))))::(sr b i o p),[(ah b),some ⟨1,[[.v (.int .u16 (bits .or .u16 o (IntKind.u16.wrap ((IntKind.u16.wrap (bits .and .u8 (((b.toNat:Int)).fdiv (2^(min (Int.toNat i) IntKind.u8.bits))) 1))*2^(min (Int.toNat p) IntKind.u16.bits)))))]]⟩]⟩) (by kernel_rfl) (by kernel_rfl) ?_
   refine iN ?_
   refine ⟨rfl,⟨[],[(ah b),(zB b i o p)]⟩,norm_le (live:=[]) (src:=[uf 0,uf 1]) (es:=[]) (by kernel_rfl) trivial,(⟨.inl (by kernel_rfl),⟨.inl (by kernel_rfl),trivial⟩⟩),rfl⟩
  refine fib_walk (m:=[(ah b),dd]) (m':=[(ah b),(dQ b)]) (kb:=2) tv (P2 (by kernel_rfl)) ?_
  refine EL.aq ?_
  refine OW.last 1 [0,2] (x':=⟨[(2,VI 0),(0, .af r [.dead, .ref 0 1 0 0, .ref 1 1 0 0, .dead, .dead, .dead, .dead, .dead, .dead, .dead, .dead, .dead, .dead, .dead, .dead, .dead, .dead, .dead, .dead, .dead, .dead, .dead, .dead, .dead, .dead, .dead, .dead, .dead, .dead, .dead, .dead, .dead, .dead, .dead, .dead, .dead, .dead])],[(ah b),dd]⟩) (by kernel_rfl) (by kernel_rfl) ?_
  refine EL.aq ?_
  refine OW.last 1 [0,2,4] (x':=⟨[(4,VI 0),(2,VI 0),(0, .af r [.dead, .ref 0 1 0 0, .ref 1 1 0 0, .dead, .dead, .dead, .dead, .dead, .dead, .dead, .dead, .dead, .dead, .dead, .dead, .dead, .dead, .dead, .dead, .dead, .dead, .dead, .dead, .dead, .dead, .dead, .dead, .dead, .dead, .dead, .dead, .dead, .dead, .dead, .dead, .dead, .dead])],[(ah b),dd]⟩) (by kernel_rfl) (by kernel_rfl) ?_
  refine EL.block ?_
  refine EL.tb 14 ?_
  refine JU.step ?_
  refine EL.aq ?_
  refine OW.last 1 [0,2,4,5] (x':=⟨[(5, .v (.bool true)),(4,VI 0),(2,VI 0),(0, .af r [.dead, .ref 0 1 0 0, .ref 1 1 0 0, .dead, .dead, .dead, .dead, .dead, .dead, .dead, .dead, .dead, .dead, .dead, .dead, .dead, .dead, .dead, .dead, .dead, .dead, .dead, .dead, .dead, .dead, .dead, .dead, .dead, .dead, .dead, .dead, .dead, .dead, .dead, .dead, .dead, .dead])],[(ah b),dd]⟩) (by kernel_rfl) (by kernel_rfl) ?_
  refine EL.seq ?_
  refine EL.aH (by kernel_rfl) ?_
  refine EL.skip ?_
  refine tN ?_
  refine EL.seq ?_
  refine EL.block ?_
  refine EL.aq ?_
  refine OW.last 2 [0,2,3,4] (x':=⟨[(3,VI 0),(4,VI 0),(2,VI 0),(0, .af r [.dead, .ref 0 1 0 0, .ref 1 1 0 0, .dead, .dead, .dead, .dead, .dead, .dead, .dead, .dead, .dead, .dead, .dead, .dead, .dead, .dead, .dead, .dead, .dead, .dead, .dead, .dead, .dead, .dead, .dead, .dead, .dead, .dead, .dead, .dead, .dead, .dead, .dead, .dead, .dead, .dead])],[(ah b),dd]⟩) (by kernel_rfl) (by kernel_rfl) ?_
  refine EL.seq ?_
  refine EL.aq ?_
  refine OW.run 2 (x':=⟨[(8, .v (.int .u64 0)),(7,VI 0),(3,VI 0),(4,VI 0),(2,VI 0),(0, .af r [.dead, .ref 0 1 0 0, .ref 1 1 0 0, .dead, .dead, .dead, .dead, .dead, .dead, .dead, .dead, .dead, .dead, .dead, .dead, .dead, .dead, .dead, .dead, .dead, .dead, .dead, .dead, .dead, .dead, .dead, .dead, .dead, .dead, .dead, .dead, .dead, .dead, .dead, .dead, .dead, .dead])],[(ah b),dd]⟩) (by kernel_rfl) ?_
  refine OW.fn (ar:=[.v (.int .u64 0)]) (x':=⟨[(9,VI (aI 0)),(8, .v (.int .u64 0)),(7,VI 0),(3,VI 0),(4,VI 0),(2,VI 0),(0, .af r [.dead, .ref 0 1 0 0, .ref 1 1 0 0, .dead, .dead, .dead, .dead, .dead, .dead, .dead, .dead, .dead, .dead, .dead, .dead, .dead, .dead, .dead, .dead, .dead, .dead, .dead, .dead, .dead, .dead, .dead, .dead, .dead, .dead, .dead, .dead, .dead, .dead, .dead, .dead, .dead, .dead])],[(ah b),dd]⟩) (by kernel_rfl) (by kernel_rfl) b6 (ck 0 (by decide)) (by kernel_rfl) (by kernel_rfl) ?_
  refine OW.last 1 [0,2,3,4,10] (x':=⟨[(10, .v (.bool (decide ((aI 0)<2)))),(3,VI 0),(4,VI 0),(2,VI 0),(0, .af r [.dead, .ref 0 1 0 0, .ref 1 1 0 0, .dead, .dead, .dead, .dead, .dead, .dead, .dead, .dead, .dead, .dead, .dead, .dead, .dead, .dead, .dead, .dead, .dead, .dead, .dead, .dead, .dead, .dead, .dead, .dead, .dead, .dead, .dead, .dead, .dead, .dead, .dead, .dead, .dead, .dead])],[(ah b),dd]⟩) (by kernel_rfl) (by kernel_rfl) ?_
  rw [k0]
  refine EL.aH (by kernel_rfl) ?_
  refine EL.exit ?_
  refine tX ?_
  refine iH ?_
  refine tN ?_
  refine EL.aF ?_
  refine OW.end 2 (x':=⟨[(4,VI 1),(18,VI 1),(10, .v (.bool true)),(3,VI 0),(2,VI 0),(0, .af r [.dead, .ref 0 1 0 0, .ref 1 1 0 0, .dead, .dead, .dead, .dead, .dead, .dead, .dead, .dead, .dead, .dead, .dead, .dead, .dead, .dead, .dead, .dead, .dead, .dead, .dead, .dead, .dead, .dead, .dead, .dead, .dead, .dead, .dead, .dead, .dead, .dead, .dead, .dead, .dead, .dead])],[(ah b),dd]⟩) (by kernel_rfl) (by kernel_rfl) ?_
  refine tN ?_
  refine JU.step ?_
  refine EL.aq ?_
  refine OW.last 1 [0,2,4,5] (x':=⟨[(5, .v (.bool true)),(4,VI 1),(2,VI 0),(0, .af r [.dead, .ref 0 1 0 0, .ref 1 1 0 0, .dead, .dead, .dead, .dead, .dead, .dead, .dead, .dead, .dead, .dead, .dead, .dead, .dead, .dead, .dead, .dead, .dead, .dead, .dead, .dead, .dead, .dead, .dead, .dead, .dead, .dead, .dead, .dead, .dead, .dead, .dead, .dead, .dead, .dead])],[(ah b),dd]⟩) (by kernel_rfl) (by kernel_rfl) ?_
  refine EL.seq ?_
  refine EL.aH (by kernel_rfl) ?_
  refine EL.skip ?_
  refine tN ?_
  refine EL.seq ?_
  refine EL.block ?_
  refine EL.aq ?_
  refine OW.last 2 [0,2,3,4] (x':=⟨[(3,VI 1),(4,VI 1),(2,VI 0),(0, .af r [.dead, .ref 0 1 0 0, .ref 1 1 0 0, .dead, .dead, .dead, .dead, .dead, .dead, .dead, .dead, .dead, .dead, .dead, .dead, .dead, .dead, .dead, .dead, .dead, .dead, .dead, .dead, .dead, .dead, .dead, .dead, .dead, .dead, .dead, .dead, .dead, .dead, .dead, .dead, .dead, .dead])],[(ah b),dd]⟩) (by kernel_rfl) (by kernel_rfl) ?_
  refine EL.seq ?_
  refine EL.aq ?_
  refine OW.run 2 (x':=⟨[(8, .v (.int .u64 1)),(7,VI 1),(3,VI 1),(4,VI 1),(2,VI 0),(0, .af r [.dead, .ref 0 1 0 0, .ref 1 1 0 0, .dead, .dead, .dead, .dead, .dead, .dead, .dead, .dead, .dead, .dead, .dead, .dead, .dead, .dead, .dead, .dead, .dead, .dead, .dead, .dead, .dead, .dead, .dead, .dead, .dead, .dead, .dead, .dead, .dead, .dead, .dead, .dead, .dead, .dead])],[(ah b),dd]⟩) (by kernel_rfl) ?_
  refine OW.fn (ar:=[.v (.int .u64 1)]) (x':=⟨[(9,VI (aI 1)),(8, .v (.int .u64 1)),(7,VI 1),(3,VI 1),(4,VI 1),(2,VI 0),(0, .af r [.dead, .ref 0 1 0 0, .ref 1 1 0 0, .dead, .dead, .dead, .dead, .dead, .dead, .dead, .dead, .dead, .dead, .dead, .dead, .dead, .dead, .dead, .dead, .dead, .dead, .dead, .dead, .dead, .dead, .dead, .dead, .dead, .dead, .dead, .dead, .dead, .dead, .dead, .dead, .dead, .dead])],[(ah b),dd]⟩) (by kernel_rfl) (by kernel_rfl) b6 (ck 1 (by decide)) (by kernel_rfl) (by kernel_rfl) ?_
  refine OW.last 1 [0,2,3,4,10] (x':=⟨[(10, .v (.bool (decide ((aI 1)<2)))),(3,VI 1),(4,VI 1),(2,VI 0),(0, .af r [.dead, .ref 0 1 0 0, .ref 1 1 0 0, .dead, .dead, .dead, .dead, .dead, .dead, .dead, .dead, .dead, .dead, .dead, .dead, .dead, .dead, .dead, .dead, .dead, .dead, .dead, .dead, .dead, .dead, .dead, .dead, .dead, .dead, .dead, .dead, .dead, .dead, .dead, .dead, .dead, .dead])],[(ah b),dd]⟩) (by kernel_rfl) (by kernel_rfl) ?_
  rw [k1]
  refine EL.aH (by kernel_rfl) ?_
  refine EL.exit ?_
  refine tX ?_
  refine iH ?_
  refine tN ?_
  refine EL.aF ?_
  refine OW.end 2 (x':=⟨[(4,VI 2),(18,VI 2),(10, .v (.bool true)),(3,VI 1),(2,VI 0),(0, .af r [.dead, .ref 0 1 0 0, .ref 1 1 0 0, .dead, .dead, .dead, .dead, .dead, .dead, .dead, .dead, .dead, .dead, .dead, .dead, .dead, .dead, .dead, .dead, .dead, .dead, .dead, .dead, .dead, .dead, .dead, .dead, .dead, .dead, .dead, .dead, .dead, .dead, .dead, .dead, .dead, .dead])],[(ah b),dd]⟩) (by kernel_rfl) (by kernel_rfl) ?_
  refine tN ?_
  refine JU.step ?_
  refine EL.aq ?_
  refine OW.last 1 [0,2,4,5] (x':=⟨[(5, .v (.bool true)),(4,VI 2),(2,VI 0),(0, .af r [.dead, .ref 0 1 0 0, .ref 1 1 0 0, .dead, .dead, .dead, .dead, .dead, .dead, .dead, .dead, .dead, .dead, .dead, .dead, .dead, .dead, .dead, .dead, .dead, .dead, .dead, .dead, .dead, .dead, .dead, .dead, .dead, .dead, .dead, .dead, .dead, .dead, .dead, .dead, .dead, .dead])],[(ah b),dd]⟩) (by kernel_rfl) (by kernel_rfl) ?_
  refine EL.seq ?_
  refine EL.aH (by kernel_rfl) ?_
  refine EL.skip ?_
  refine tN ?_
  refine EL.seq ?_
  refine EL.block ?_
  refine EL.aq ?_
  refine OW.last 2 [0,2,3,4] (x':=⟨[(3,VI 2),(4,VI 2),(2,VI 0),(0, .af r [.dead, .ref 0 1 0 0, .ref 1 1 0 0, .dead, .dead, .dead, .dead, .dead, .dead, .dead, .dead, .dead, .dead, .dead, .dead, .dead, .dead, .dead, .dead, .dead, .dead, .dead, .dead, .dead, .dead, .dead, .dead, .dead, .dead, .dead, .dead, .dead, .dead, .dead, .dead, .dead, .dead])],[(ah b),dd]⟩) (by kernel_rfl) (by kernel_rfl) ?_
  refine EL.seq ?_
  refine EL.aq ?_
  refine OW.run 2 (x':=⟨[(8, .v (.int .u64 2)),(7,VI 2),(3,VI 2),(4,VI 2),(2,VI 0),(0, .af r [.dead, .ref 0 1 0 0, .ref 1 1 0 0, .dead, .dead, .dead, .dead, .dead, .dead, .dead, .dead, .dead, .dead, .dead, .dead, .dead, .dead, .dead, .dead, .dead, .dead, .dead, .dead, .dead, .dead, .dead, .dead, .dead, .dead, .dead, .dead, .dead, .dead, .dead, .dead, .dead, .dead])],[(ah b),dd]⟩) (by kernel_rfl) ?_
  refine OW.fn (ar:=[.v (.int .u64 2)]) (x':=⟨[(9,VI (aI 2)),(8, .v (.int .u64 2)),(7,VI 2),(3,VI 2),(4,VI 2),(2,VI 0),(0, .af r [.dead, .ref 0 1 0 0, .ref 1 1 0 0, .dead, .dead, .dead, .dead, .dead, .dead, .dead, .dead, .dead, .dead, .dead, .dead, .dead, .dead, .dead, .dead, .dead, .dead, .dead, .dead, .dead, .dead, .dead, .dead, .dead, .dead, .dead, .dead, .dead, .dead, .dead, .dead, .dead, .dead])],[(ah b),dd]⟩) (by kernel_rfl) (by kernel_rfl) b6 (ck 2 (by decide)) (by kernel_rfl) (by kernel_rfl) ?_
  refine OW.last 1 [0,2,3,4,10] (x':=⟨[(10, .v (.bool (decide ((aI 2)<2)))),(3,VI 2),(4,VI 2),(2,VI 0),(0, .af r [.dead, .ref 0 1 0 0, .ref 1 1 0 0, .dead, .dead, .dead, .dead, .dead, .dead, .dead, .dead, .dead, .dead, .dead, .dead, .dead, .dead, .dead, .dead, .dead, .dead, .dead, .dead, .dead, .dead, .dead, .dead, .dead, .dead, .dead, .dead, .dead, .dead, .dead, .dead, .dead, .dead])],[(ah b),dd]⟩) (by kernel_rfl) (by kernel_rfl) ?_
  rw [k2]
  refine EL.aH (by kernel_rfl) ?_
  refine EL.exit ?_
  refine tX ?_
  refine iH ?_
  refine tN ?_
  refine EL.aF ?_
  refine OW.end 2 (x':=⟨[(4,VI 3),(18,VI 3),(10, .v (.bool true)),(3,VI 2),(2,VI 0),(0, .af r [.dead, .ref 0 1 0 0, .ref 1 1 0 0, .dead, .dead, .dead, .dead, .dead, .dead, .dead, .dead, .dead, .dead, .dead, .dead, .dead, .dead, .dead, .dead, .dead, .dead, .dead, .dead, .dead, .dead, .dead, .dead, .dead, .dead, .dead, .dead, .dead, .dead, .dead, .dead, .dead, .dead])],[(ah b),dd]⟩) (by kernel_rfl) (by kernel_rfl) ?_
  refine tN ?_
  refine JU.step ?_
  refine EL.aq ?_
  refine OW.last 1 [0,2,4,5] (x':=⟨[(5, .v (.bool true)),(4,VI 3),(2,VI 0),(0, .af r [.dead, .ref 0 1 0 0, .ref 1 1 0 0, .dead, .dead, .dead, .dead, .dead, .dead, .dead, .dead, .dead, .dead, .dead, .dead, .dead, .dead, .dead, .dead, .dead, .dead, .dead, .dead, .dead, .dead, .dead, .dead, .dead, .dead, .dead, .dead, .dead, .dead, .dead, .dead, .dead, .dead])],[(ah b),dd]⟩) (by kernel_rfl) (by kernel_rfl) ?_
  refine EL.seq ?_
  refine EL.aH (by kernel_rfl) ?_
  refine EL.skip ?_
  refine tN ?_
  refine EL.seq ?_
  refine EL.block ?_
  refine EL.aq ?_
  refine OW.last 2 [0,2,3,4] (x':=⟨[(3,VI 3),(4,VI 3),(2,VI 0),(0, .af r [.dead, .ref 0 1 0 0, .ref 1 1 0 0, .dead, .dead, .dead, .dead, .dead, .dead, .dead, .dead, .dead, .dead, .dead, .dead, .dead, .dead, .dead, .dead, .dead, .dead, .dead, .dead, .dead, .dead, .dead, .dead, .dead, .dead, .dead, .dead, .dead, .dead, .dead, .dead, .dead, .dead])],[(ah b),dd]⟩) (by kernel_rfl) (by kernel_rfl) ?_
  refine EL.seq ?_
  refine EL.aq ?_
  refine OW.run 2 (x':=⟨[(8, .v (.int .u64 3)),(7,VI 3),(3,VI 3),(4,VI 3),(2,VI 0),(0, .af r [.dead, .ref 0 1 0 0, .ref 1 1 0 0, .dead, .dead, .dead, .dead, .dead, .dead, .dead, .dead, .dead, .dead, .dead, .dead, .dead, .dead, .dead, .dead, .dead, .dead, .dead, .dead, .dead, .dead, .dead, .dead, .dead, .dead, .dead, .dead, .dead, .dead, .dead, .dead, .dead, .dead])],[(ah b),dd]⟩) (by kernel_rfl) ?_
  refine OW.fn (ar:=[.v (.int .u64 3)]) (x':=⟨[(9,VI (aI 3)),(8, .v (.int .u64 3)),(7,VI 3),(3,VI 3),(4,VI 3),(2,VI 0),(0, .af r [.dead, .ref 0 1 0 0, .ref 1 1 0 0, .dead, .dead, .dead, .dead, .dead, .dead, .dead, .dead, .dead, .dead, .dead, .dead, .dead, .dead, .dead, .dead, .dead, .dead, .dead, .dead, .dead, .dead, .dead, .dead, .dead, .dead, .dead, .dead, .dead, .dead, .dead, .dead, .dead, .dead])],[(ah b),dd]⟩) (by kernel_rfl) (by kernel_rfl) b6 (ck 3 (by decide)) (by kernel_rfl) (by kernel_rfl) ?_
  refine OW.last 1 [0,2,3,4,10] (x':=⟨[(10, .v (.bool (decide ((aI 3)<2)))),(3,VI 3),(4,VI 3),(2,VI 0),(0, .af r [.dead, .ref 0 1 0 0, .ref 1 1 0 0, .dead, .dead, .dead, .dead, .dead, .dead, .dead, .dead, .dead, .dead, .dead, .dead, .dead, .dead, .dead, .dead, .dead, .dead, .dead, .dead, .dead, .dead, .dead, .dead, .dead, .dead, .dead, .dead, .dead, .dead, .dead, .dead, .dead, .dead])],[(ah b),dd]⟩) (by kernel_rfl) (by kernel_rfl) ?_
  rw [k3]
  refine EL.aJ (by kernel_rfl) ?_
  refine EL.skip ?_
  refine tN ?_
  refine EL.seq ?_
  refine EL.norm [10,3,4,2,0] [uf 0,uf 1] [] (y:=⟨[(10, .v (.bool false)),(3,VI 3),(4,VI 3),(2,VI 0),(0, .af r [.dead, .ref 0 1 0 0, .ref 1 1 0 0, .dead, .dead, .dead, .dead, .dead, .dead, .dead, .dead, .dead, .dead, .dead, .dead, .dead, .dead, .dead, .dead, .dead, .dead, .dead, .dead, .dead, .dead, .dead, .dead, .dead, .dead, .dead, .dead, .dead, .dead, .dead, .dead, .dead, .dead])],[(ah b),dd]⟩) (by kernel_rfl) trivial ?_
  refine EL.aq ?_
  refine OW.run 3 (x':=⟨[(13,VI 3),(12,VI 0),(11, .af r [.dead, .ref 0 1 0 0, .ref 1 1 0 0, .dead, .dead, .dead, .dead, .dead, .dead, .dead, .dead, .dead, .dead, .dead, .dead, .dead, .dead, .dead, .dead, .dead, .dead, .dead, .dead, .dead, .dead, .dead, .dead, .dead, .dead, .dead, .dead, .dead, .dead, .dead, .dead, .dead, .dead]),(10, .v (.bool false)),(3,VI 3),(4,VI 3),(2,VI 0),(0, .af r [.dead, .ref 0 1 0 0, .ref 1 1 0 0, .dead, .dead, .dead, .dead, .dead, .dead, .dead, .dead, .dead, .dead, .dead, .dead, .dead, .dead, .dead, .dead, .dead, .dead, .dead, .dead, .dead, .dead, .dead, .dead, .dead, .dead, .dead, .dead, .dead, .dead, .dead, .dead, .dead, .dead])],[(ah b),dd]⟩) (by kernel_rfl) ?_
  refine OW.af (a:=(.s 11)) (args:=[(.s 12),(.s 13)]) (aa:=[VI 0,VI 3]) (kb:=2) (m':=[(ah b),(ff b)]) (x':=⟨[(14, .v (.bool true)),(13,VI 3),(12,VI 0),(11, .af r [.dead, .ref 0 1 0 0, .ref 1 1 0 0, .dead, .dead, .dead, .dead, .dead, .dead, .dead, .dead, .dead, .dead, .dead, .dead, .dead, .dead, .dead, .dead, .dead, .dead, .dead, .dead, .dead, .dead, .dead, .dead, .dead, .dead, .dead, .dead, .dead, .dead, .dead, .dead, .dead, .dead]),(10, .v (.bool false)),(3,VI 3),(4,VI 3),(2,VI 0),(0, .af r [.dead, .ref 0 1 0 0, .ref 1 1 0 0, .dead, .dead, .dead, .dead, .dead, .dead, .dead, .dead, .dead, .dead, .dead, .dead, .dead, .dead, .dead, .dead, .dead, .dead, .dead, .dead, .dead, .dead, .dead, .dead, .dead, .dead, .dead, .dead, .dead, .dead, .dead, .dead, .dead, .dead])],[(ah b),(ff b)]⟩) (by kernel_rfl) (by kernel_rfl) (by kernel_rfl) (by kernel_rfl) (by kernel_rfl) (by kernel_rfl) (HY (0:Int) 0 3 (by decide) (by decide)) (by kernel_rfl) ?_
  refine OW.last 1 [0,2,4,15] (x':=⟨[(15, .v (.bool false)),(4,VI 3),(2,VI 0),(0, .af r [.dead, .ref 0 1 0 0, .ref 1 1 0 0, .dead, .dead, .dead, .dead, .dead, .dead, .dead, .dead, .dead, .dead, .dead, .dead, .dead, .dead, .dead, .dead, .dead, .dead, .dead, .dead, .dead, .dead, .dead, .dead, .dead, .dead, .dead, .dead, .dead, .dead, .dead, .dead, .dead, .dead])],[(ah b),(ff b)]⟩) (by kernel_rfl) (by kernel_rfl) ?_
  refine EL.aJ (by kernel_rfl) ?_
  refine EL.skip ?_
  refine tN ?_
  refine EL.aF ?_
  refine OW.end 3 (x':=⟨[(2,VI 1),(17,VI 1),(16,VI 0),(15, .v (.bool false)),(4,VI 3),(0, .af r [.dead, .ref 0 1 0 0, .ref 1 1 0 0, .dead, .dead, .dead, .dead, .dead, .dead, .dead, .dead, .dead, .dead, .dead, .dead, .dead, .dead, .dead, .dead, .dead, .dead, .dead, .dead, .dead, .dead, .dead, .dead, .dead, .dead, .dead, .dead, .dead, .dead, .dead, .dead, .dead, .dead])],[(ah b),(ff b)]⟩) (by kernel_rfl) (by kernel_rfl) ?_
  refine iN ?_
  refine tN ?_
  refine EL.aF ?_
  refine OW.end 2 (x':=⟨[(4,VI 4),(18,VI 4),(2,VI 1),(17,VI 1),(16,VI 0),(15, .v (.bool false)),(0, .af r [.dead, .ref 0 1 0 0, .ref 1 1 0 0, .dead, .dead, .dead, .dead, .dead, .dead, .dead, .dead, .dead, .dead, .dead, .dead, .dead, .dead, .dead, .dead, .dead, .dead, .dead, .dead, .dead, .dead, .dead, .dead, .dead, .dead, .dead, .dead, .dead, .dead, .dead, .dead, .dead, .dead])],[(ah b),(ff b)]⟩) (by kernel_rfl) (by kernel_rfl) ?_
  refine tN ?_
  refine JU.step ?_
  refine EL.aq ?_
  refine OW.last 1 [0,2,4,5] (x':=⟨[(5, .v (.bool true)),(4,VI 4),(2,VI 1),(0, .af r [.dead, .ref 0 1 0 0, .ref 1 1 0 0, .dead, .dead, .dead, .dead, .dead, .dead, .dead, .dead, .dead, .dead, .dead, .dead, .dead, .dead, .dead, .dead, .dead, .dead, .dead, .dead, .dead, .dead, .dead, .dead, .dead, .dead, .dead, .dead, .dead, .dead, .dead, .dead, .dead, .dead])],[(ah b),(ff b)]⟩) (by kernel_rfl) (by kernel_rfl) ?_
  refine EL.seq ?_
  refine EL.aH (by kernel_rfl) ?_
  refine EL.skip ?_
  refine tN ?_
  refine EL.seq ?_
  refine EL.block ?_
  refine EL.aq ?_
  refine OW.last 2 [0,2,3,4] (x':=⟨[(3,VI 4),(4,VI 4),(2,VI 1),(0, .af r [.dead, .ref 0 1 0 0, .ref 1 1 0 0, .dead, .dead, .dead, .dead, .dead, .dead, .dead, .dead, .dead, .dead, .dead, .dead, .dead, .dead, .dead, .dead, .dead, .dead, .dead, .dead, .dead, .dead, .dead, .dead, .dead, .dead, .dead, .dead, .dead, .dead, .dead, .dead, .dead, .dead])],[(ah b),(ff b)]⟩) (by kernel_rfl) (by kernel_rfl) ?_
  refine EL.seq ?_
  refine EL.aq ?_
  refine OW.run 2 (x':=⟨[(8, .v (.int .u64 4)),(7,VI 4),(3,VI 4),(4,VI 4),(2,VI 1),(0, .af r [.dead, .ref 0 1 0 0, .ref 1 1 0 0, .dead, .dead, .dead, .dead, .dead, .dead, .dead, .dead, .dead, .dead, .dead, .dead, .dead, .dead, .dead, .dead, .dead, .dead, .dead, .dead, .dead, .dead, .dead, .dead, .dead, .dead, .dead, .dead, .dead, .dead, .dead, .dead, .dead, .dead])],[(ah b),(ff b)]⟩) (by kernel_rfl) ?_
  refine OW.fn (ar:=[.v (.int .u64 4)]) (x':=⟨[(9,VI (aI 4)),(8, .v (.int .u64 4)),(7,VI 4),(3,VI 4),(4,VI 4),(2,VI 1),(0, .af r [.dead, .ref 0 1 0 0, .ref 1 1 0 0, .dead, .dead, .dead, .dead, .dead, .dead, .dead, .dead, .dead, .dead, .dead, .dead, .dead, .dead, .dead, .dead, .dead, .dead, .dead, .dead, .dead, .dead, .dead, .dead, .dead, .dead, .dead, .dead, .dead, .dead, .dead, .dead, .dead, .dead])],[(ah b),(ff b)]⟩) (by kernel_rfl) (by kernel_rfl) b6 (ck 4 (by decide)) (by kernel_rfl) (by kernel_rfl) ?_
  refine OW.last 1 [0,2,3,4,10] (x':=⟨[(10, .v (.bool (decide ((aI 4)<2)))),(3,VI 4),(4,VI 4),(2,VI 1),(0, .af r [.dead, .ref 0 1 0 0, .ref 1 1 0 0, .dead, .dead, .dead, .dead, .dead, .dead, .dead, .dead, .dead, .dead, .dead, .dead, .dead, .dead, .dead, .dead, .dead, .dead, .dead, .dead, .dead, .dead, .dead, .dead, .dead, .dead, .dead, .dead, .dead, .dead, .dead, .dead, .dead, .dead])],[(ah b),(ff b)]⟩) (by kernel_rfl) (by kernel_rfl) ?_
  rw [k4]
  refine EL.aH (by kernel_rfl) ?_
  refine EL.exit ?_
  refine tX ?_
  refine iH ?_
  refine tN ?_
  refine EL.aF ?_
  refine OW.end 2 (x':=⟨[(4,VI 5),(18,VI 5),(10, .v (.bool true)),(3,VI 4),(2,VI 1),(0, .af r [.dead, .ref 0 1 0 0, .ref 1 1 0 0, .dead, .dead, .dead, .dead, .dead, .dead, .dead, .dead, .dead, .dead, .dead, .dead, .dead, .dead, .dead, .dead, .dead, .dead, .dead, .dead, .dead, .dead, .dead, .dead, .dead, .dead, .dead, .dead, .dead, .dead, .dead, .dead, .dead, .dead])],[(ah b),(ff b)]⟩) (by kernel_rfl) (by kernel_rfl) ?_
  refine tN ?_
  refine JU.step ?_
  refine EL.aq ?_
  refine OW.last 1 [0,2,4,5] (x':=⟨[(5, .v (.bool true)),(4,VI 5),(2,VI 1),(0, .af r [.dead, .ref 0 1 0 0, .ref 1 1 0 0, .dead, .dead, .dead, .dead, .dead, .dead, .dead, .dead, .dead, .dead, .dead, .dead, .dead, .dead, .dead, .dead, .dead, .dead, .dead, .dead, .dead, .dead, .dead, .dead, .dead, .dead, .dead, .dead, .dead, .dead, .dead, .dead, .dead, .dead])],[(ah b),(ff b)]⟩) (by kernel_rfl) (by kernel_rfl) ?_
  refine EL.seq ?_
  refine EL.aH (by kernel_rfl) ?_
  refine EL.skip ?_
  refine tN ?_
  refine EL.seq ?_
  refine EL.block ?_
  refine EL.aq ?_
  refine OW.last 2 [0,2,3,4] (x':=⟨[(3,VI 5),(4,VI 5),(2,VI 1),(0, .af r [.dead, .ref 0 1 0 0, .ref 1 1 0 0, .dead, .dead, .dead, .dead, .dead, .dead, .dead, .dead, .dead, .dead, .dead, .dead, .dead, .dead, .dead, .dead, .dead, .dead, .dead, .dead, .dead, .dead, .dead, .dead, .dead, .dead, .dead, .dead, .dead, .dead, .dead, .dead, .dead, .dead])],[(ah b),(ff b)]⟩) (by kernel_rfl) (by kernel_rfl) ?_
  refine EL.seq ?_
  refine EL.aq ?_
  refine OW.run 2 (x':=⟨[(8, .v (.int .u64 5)),(7,VI 5),(3,VI 5),(4,VI 5),(2,VI 1),(0, .af r [.dead, .ref 0 1 0 0, .ref 1 1 0 0, .dead, .dead, .dead, .dead, .dead, .dead, .dead, .dead, .dead, .dead, .dead, .dead, .dead, .dead, .dead, .dead, .dead, .dead, .dead, .dead, .dead, .dead, .dead, .dead, .dead, .dead, .dead, .dead, .dead, .dead, .dead, .dead, .dead, .dead])],[(ah b),(ff b)]⟩) (by kernel_rfl) ?_
  refine OW.fn (ar:=[.v (.int .u64 5)]) (x':=⟨[(9,VI (aI 5)),(8, .v (.int .u64 5)),(7,VI 5),(3,VI 5),(4,VI 5),(2,VI 1),(0, .af r [.dead, .ref 0 1 0 0, .ref 1 1 0 0, .dead, .dead, .dead, .dead, .dead, .dead, .dead, .dead, .dead, .dead, .dead, .dead, .dead, .dead, .dead, .dead, .dead, .dead, .dead, .dead, .dead, .dead, .dead, .dead, .dead, .dead, .dead, .dead, .dead, .dead, .dead, .dead, .dead, .dead])],[(ah b),(ff b)]⟩) (by kernel_rfl) (by kernel_rfl) b6 (ck 5 (by decide)) (by kernel_rfl) (by kernel_rfl) ?_
  refine OW.last 1 [0,2,3,4,10] (x':=⟨[(10, .v (.bool (decide ((aI 5)<2)))),(3,VI 5),(4,VI 5),(2,VI 1),(0, .af r [.dead, .ref 0 1 0 0, .ref 1 1 0 0, .dead, .dead, .dead, .dead, .dead, .dead, .dead, .dead, .dead, .dead, .dead, .dead, .dead, .dead, .dead, .dead, .dead, .dead, .dead, .dead, .dead, .dead, .dead, .dead, .dead, .dead, .dead, .dead, .dead, .dead, .dead, .dead, .dead, .dead])],[(ah b),(ff b)]⟩) (by kernel_rfl) (by kernel_rfl) ?_
  rw [k5]
  refine EL.aJ (by kernel_rfl) ?_
  refine EL.skip ?_
  refine tN ?_
  refine EL.seq ?_
  refine EL.norm [10,3,4,2,0] [uf 0,uf 1] [] (y:=⟨[(10, .v (.bool false)),(3,VI 5),(4,VI 5),(2,VI 1),(0, .af r [.dead, .ref 0 1 0 0, .ref 1 1 0 0, .dead, .dead, .dead, .dead, .dead, .dead, .dead, .dead, .dead, .dead, .dead, .dead, .dead, .dead, .dead, .dead, .dead, .dead, .dead, .dead, .dead, .dead, .dead, .dead, .dead, .dead, .dead, .dead, .dead, .dead, .dead, .dead, .dead, .dead])],[(ah b),(ff b)]⟩) (by kernel_rfl) trivial ?_
  refine EL.aq ?_
  refine OW.run 3 (x':=⟨[(13,VI 5),(12,VI 1),(11, .af r [.dead, .ref 0 1 0 0, .ref 1 1 0 0, .dead, .dead, .dead, .dead, .dead, .dead, .dead, .dead, .dead, .dead, .dead, .dead, .dead, .dead, .dead, .dead, .dead, .dead, .dead, .dead, .dead, .dead, .dead, .dead, .dead, .dead, .dead, .dead, .dead, .dead, .dead, .dead, .dead, .dead]),(10, .v (.bool false)),(3,VI 5),(4,VI 5),(2,VI 1),(0, .af r [.dead, .ref 0 1 0 0, .ref 1 1 0 0, .dead, .dead, .dead, .dead, .dead, .dead, .dead, .dead, .dead, .dead, .dead, .dead, .dead, .dead, .dead, .dead, .dead, .dead, .dead, .dead, .dead, .dead, .dead, .dead, .dead, .dead, .dead, .dead, .dead, .dead, .dead, .dead, .dead, .dead])],[(ah b),(ff b)]⟩) (by kernel_rfl) ?_
  refine OW.af (a:=(.s 11)) (args:=[(.s 12),(.s 13)]) (aa:=[VI 1,VI 5]) (kb:=2) (m':=[(ah b),(jv b)]) (x':=⟨[(14, .v (.bool true)),(13,VI 5),(12,VI 1),(11, .af r [.dead, .ref 0 1 0 0, .ref 1 1 0 0, .dead, .dead, .dead, .dead, .dead, .dead, .dead, .dead, .dead, .dead, .dead, .dead, .dead, .dead, .dead, .dead, .dead, .dead, .dead, .dead, .dead, .dead, .dead, .dead, .dead, .dead, .dead, .dead, .dead, .dead, .dead, .dead, .dead, .dead]),(10, .v (.bool false)),(3,VI 5),(4,VI 5),(2,VI 1),(0, .af r [.dead, .ref 0 1 0 0, .ref 1 1 0 0, .dead, .dead, .dead, .dead, .dead, .dead, .dead, .dead, .dead, .dead, .dead, .dead, .dead, .dead, .dead, .dead, .dead, .dead, .dead, .dead, .dead, .dead, .dead, .dead, .dead, .dead, .dead, .dead, .dead, .dead, .dead, .dead, .dead, .dead])],[(ah b),(jv b)]⟩) (by kernel_rfl) (by kernel_rfl) (by kernel_rfl) (by kernel_rfl) (by kernel_rfl) (by kernel_rfl) (HY (aW (b.toNat:Int) (0:Int) 0 3) 1 5 (by decide) (by decide)) (by kernel_rfl) ?_
  refine OW.last 1 [0,2,4,15] (x':=⟨[(15, .v (.bool false)),(4,VI 5),(2,VI 1),(0, .af r [.dead, .ref 0 1 0 0, .ref 1 1 0 0, .dead, .dead, .dead, .dead, .dead, .dead, .dead, .dead, .dead, .dead, .dead, .dead, .dead, .dead, .dead, .dead, .dead, .dead, .dead, .dead, .dead, .dead, .dead, .dead, .dead, .dead, .dead, .dead, .dead, .dead, .dead, .dead, .dead, .dead])],[(ah b),(jv b)]⟩) (by kernel_rfl) (by kernel_rfl) ?_
  refine EL.aJ (by kernel_rfl) ?_
  refine EL.skip ?_
  refine tN ?_
  refine EL.aF ?_
  refine OW.end 3 (x':=⟨[(2,VI 2),(17,VI 2),(16,VI 1),(15, .v (.bool false)),(4,VI 5),(0, .af r [.dead, .ref 0 1 0 0, .ref 1 1 0 0, .dead, .dead, .dead, .dead, .dead, .dead, .dead, .dead, .dead, .dead, .dead, .dead, .dead, .dead, .dead, .dead, .dead, .dead, .dead, .dead, .dead, .dead, .dead, .dead, .dead, .dead, .dead, .dead, .dead, .dead, .dead, .dead, .dead, .dead])],[(ah b),(jv b)]⟩) (by kernel_rfl) (by kernel_rfl) ?_
  refine iN ?_
  refine tN ?_
  refine EL.aF ?_
  refine OW.end 2 (x':=⟨[(4,VI 6),(18,VI 6),(2,VI 2),(17,VI 2),(16,VI 1),(15, .v (.bool false)),(0, .af r [.dead, .ref 0 1 0 0, .ref 1 1 0 0, .dead, .dead, .dead, .dead, .dead, .dead, .dead, .dead, .dead, .dead, .dead, .dead, .dead, .dead, .dead, .dead, .dead, .dead, .dead, .dead, .dead, .dead, .dead, .dead, .dead, .dead, .dead, .dead, .dead, .dead, .dead, .dead, .dead, .dead])],[(ah b),(jv b)]⟩) (by kernel_rfl) (by kernel_rfl) ?_
  refine tN ?_
  refine JU.step ?_
  refine EL.aq ?_
  refine OW.last 1 [0,2,4,5] (x':=⟨[(5, .v (.bool true)),(4,VI 6),(2,VI 2),(0, .af r [.dead, .ref 0 1 0 0, .ref 1 1 0 0, .dead, .dead, .dead, .dead, .dead, .dead, .dead, .dead, .dead, .dead, .dead, .dead, .dead, .dead, .dead, .dead, .dead, .dead, .dead, .dead, .dead, .dead, .dead, .dead, .dead, .dead, .dead, .dead, .dead, .dead, .dead, .dead, .dead, .dead])],[(ah b),(jv b)]⟩) (by kernel_rfl) (by kernel_rfl) ?_
  refine EL.seq ?_
  refine EL.aH (by kernel_rfl) ?_
  refine EL.skip ?_
  refine tN ?_
  refine EL.seq ?_
  refine EL.block ?_
  refine EL.aq ?_
  refine OW.last 2 [0,2,3,4] (x':=⟨[(3,VI 6),(4,VI 6),(2,VI 2),(0, .af r [.dead, .ref 0 1 0 0, .ref 1 1 0 0, .dead, .dead, .dead, .dead, .dead, .dead, .dead, .dead, .dead, .dead, .dead, .dead, .dead, .dead, .dead, .dead, .dead, .dead, .dead, .dead, .dead, .dead, .dead, .dead, .dead, .dead, .dead, .dead, .dead, .dead, .dead, .dead, .dead, .dead])],[(ah b),(jv b)]⟩) (by kernel_rfl) (by kernel_rfl) ?_
  refine EL.seq ?_
  refine EL.aq ?_
  refine OW.run 2 (x':=⟨[(8, .v (.int .u64 6)),(7,VI 6),(3,VI 6),(4,VI 6),(2,VI 2),(0, .af r [.dead, .ref 0 1 0 0, .ref 1 1 0 0, .dead, .dead, .dead, .dead, .dead, .dead, .dead, .dead, .dead, .dead, .dead, .dead, .dead, .dead, .dead, .dead, .dead, .dead, .dead, .dead, .dead, .dead, .dead, .dead, .dead, .dead, .dead, .dead, .dead, .dead, .dead, .dead, .dead, .dead])],[(ah b),(jv b)]⟩) (by kernel_rfl) ?_
  refine OW.fn (ar:=[.v (.int .u64 6)]) (x':=⟨[(9,VI (aI 6)),(8, .v (.int .u64 6)),(7,VI 6),(3,VI 6),(4,VI 6),(2,VI 2),(0, .af r [.dead, .ref 0 1 0 0, .ref 1 1 0 0, .dead, .dead, .dead, .dead, .dead, .dead, .dead, .dead, .dead, .dead, .dead, .dead, .dead, .dead, .dead, .dead, .dead, .dead, .dead, .dead, .dead, .dead, .dead, .dead, .dead, .dead, .dead, .dead, .dead, .dead, .dead, .dead, .dead, .dead])],[(ah b),(jv b)]⟩) (by kernel_rfl) (by kernel_rfl) b6 (ck 6 (by decide)) (by kernel_rfl) (by kernel_rfl) ?_
  refine OW.last 1 [0,2,3,4,10] (x':=⟨[(10, .v (.bool (decide ((aI 6)<2)))),(3,VI 6),(4,VI 6),(2,VI 2),(0, .af r [.dead, .ref 0 1 0 0, .ref 1 1 0 0, .dead, .dead, .dead, .dead, .dead, .dead, .dead, .dead, .dead, .dead, .dead, .dead, .dead, .dead, .dead, .dead, .dead, .dead, .dead, .dead, .dead, .dead, .dead, .dead, .dead, .dead, .dead, .dead, .dead, .dead, .dead, .dead, .dead, .dead])],[(ah b),(jv b)]⟩) (by kernel_rfl) (by kernel_rfl) ?_
  rw [k6]
  refine EL.aJ (by kernel_rfl) ?_
  refine EL.skip ?_
  refine tN ?_
  refine EL.seq ?_
  refine EL.norm [10,3,4,2,0] [uf 0,uf 1] [] (y:=⟨[(10, .v (.bool false)),(3,VI 6),(4,VI 6),(2,VI 2),(0, .af r [.dead, .ref 0 1 0 0, .ref 1 1 0 0, .dead, .dead, .dead, .dead, .dead, .dead, .dead, .dead, .dead, .dead, .dead, .dead, .dead, .dead, .dead, .dead, .dead, .dead, .dead, .dead, .dead, .dead, .dead, .dead, .dead, .dead, .dead, .dead, .dead, .dead, .dead, .dead, .dead, .dead])],[(ah b),(jv b)]⟩) (by kernel_rfl) trivial ?_
  refine EL.aq ?_
  refine OW.run 3 (x':=⟨[(13,VI 6),(12,VI 2),(11, .af r [.dead, .ref 0 1 0 0, .ref 1 1 0 0, .dead, .dead, .dead, .dead, .dead, .dead, .dead, .dead, .dead, .dead, .dead, .dead, .dead, .dead, .dead, .dead, .dead, .dead, .dead, .dead, .dead, .dead, .dead, .dead, .dead, .dead, .dead, .dead, .dead, .dead, .dead, .dead, .dead, .dead]),(10, .v (.bool false)),(3,VI 6),(4,VI 6),(2,VI 2),(0, .af r [.dead, .ref 0 1 0 0, .ref 1 1 0 0, .dead, .dead, .dead, .dead, .dead, .dead, .dead, .dead, .dead, .dead, .dead, .dead, .dead, .dead, .dead, .dead, .dead, .dead, .dead, .dead, .dead, .dead, .dead, .dead, .dead, .dead, .dead, .dead, .dead, .dead, .dead, .dead, .dead, .dead])],[(ah b),(jv b)]⟩) (by kernel_rfl) ?_
  refine OW.af (a:=(.s 11)) (args:=[(.s 12),(.s 13)]) (aa:=[VI 2,VI 6]) (kb:=2) (m':=[(ah b),(jw b)]) (x':=⟨[(14, .v (.bool true)),(13,VI 6),(12,VI 2),(11, .af r [.dead, .ref 0 1 0 0, .ref 1 1 0 0, .dead, .dead, .dead, .dead, .dead, .dead, .dead, .dead, .dead, .dead, .dead, .dead, .dead, .dead, .dead, .dead, .dead, .dead, .dead, .dead, .dead, .dead, .dead, .dead, .dead, .dead, .dead, .dead, .dead, .dead, .dead, .dead, .dead, .dead]),(10, .v (.bool false)),(3,VI 6),(4,VI 6),(2,VI 2),(0, .af r [.dead, .ref 0 1 0 0, .ref 1 1 0 0, .dead, .dead, .dead, .dead, .dead, .dead, .dead, .dead, .dead, .dead, .dead, .dead, .dead, .dead, .dead, .dead, .dead, .dead, .dead, .dead, .dead, .dead, .dead, .dead, .dead, .dead, .dead, .dead, .dead, .dead, .dead, .dead, .dead, .dead])],[(ah b),(jw b)]⟩) (by kernel_rfl) (by kernel_rfl) (by kernel_rfl) (by kernel_rfl) (by kernel_rfl) (by kernel_rfl) (HY (aW (b.toNat:Int) (aW (b.toNat:Int) (0:Int) 0 3) 1 5) 2 6 (by decide) (by decide)) (by kernel_rfl) ?_
  refine OW.last 1 [0,2,4,15] (x':=⟨[(15, .v (.bool false)),(4,VI 6),(2,VI 2),(0, .af r [.dead, .ref 0 1 0 0, .ref 1 1 0 0, .dead, .dead, .dead, .dead, .dead, .dead, .dead, .dead, .dead, .dead, .dead, .dead, .dead, .dead, .dead, .dead, .dead, .dead, .dead, .dead, .dead, .dead, .dead, .dead, .dead, .dead, .dead, .dead, .dead, .dead, .dead, .dead, .dead, .dead])],[(ah b),(jw b)]⟩) (by kernel_rfl) (by kernel_rfl) ?_
  refine EL.aJ (by kernel_rfl) ?_
  refine EL.skip ?_
  refine tN ?_
  refine EL.aF ?_
  refine OW.end 3 (x':=⟨[(2,VI 3),(17,VI 3),(16,VI 2),(15, .v (.bool false)),(4,VI 6),(0, .af r [.dead, .ref 0 1 0 0, .ref 1 1 0 0, .dead, .dead, .dead, .dead, .dead, .dead, .dead, .dead, .dead, .dead, .dead, .dead, .dead, .dead, .dead, .dead, .dead, .dead, .dead, .dead, .dead, .dead, .dead, .dead, .dead, .dead, .dead, .dead, .dead, .dead, .dead, .dead, .dead, .dead])],[(ah b),(jw b)]⟩) (by kernel_rfl) (by kernel_rfl) ?_
  refine iN ?_
  refine tN ?_
  refine EL.aF ?_
  refine OW.end 2 (x':=⟨[(4,VI 7),(18,VI 7),(2,VI 3),(17,VI 3),(16,VI 2),(15, .v (.bool false)),(0, .af r [.dead, .ref 0 1 0 0, .ref 1 1 0 0, .dead, .dead, .dead, .dead, .dead, .dead, .dead, .dead, .dead, .dead, .dead, .dead, .dead, .dead, .dead, .dead, .dead, .dead, .dead, .dead, .dead, .dead, .dead, .dead, .dead, .dead, .dead, .dead, .dead, .dead, .dead, .dead, .dead, .dead])],[(ah b),(jw b)]⟩) (by kernel_rfl) (by kernel_rfl) ?_
  refine tN ?_
  refine JU.step ?_
  refine EL.aq ?_
  refine OW.last 1 [0,2,4,5] (x':=⟨[(5, .v (.bool true)),(4,VI 7),(2,VI 3),(0, .af r [.dead, .ref 0 1 0 0, .ref 1 1 0 0, .dead, .dead, .dead, .dead, .dead, .dead, .dead, .dead, .dead, .dead, .dead, .dead, .dead, .dead, .dead, .dead, .dead, .dead, .dead, .dead, .dead, .dead, .dead, .dead, .dead, .dead, .dead, .dead, .dead, .dead, .dead, .dead, .dead, .dead])],[(ah b),(jw b)]⟩) (by kernel_rfl) (by kernel_rfl) ?_
  refine EL.seq ?_
  refine EL.aH (by kernel_rfl) ?_
  refine EL.skip ?_
  refine tN ?_
  refine EL.seq ?_
  refine EL.block ?_
  refine EL.aq ?_
  refine OW.last 2 [0,2,3,4] (x':=⟨[(3,VI 7),(4,VI 7),(2,VI 3),(0, .af r [.dead, .ref 0 1 0 0, .ref 1 1 0 0, .dead, .dead, .dead, .dead, .dead, .dead, .dead, .dead, .dead, .dead, .dead, .dead, .dead, .dead, .dead, .dead, .dead, .dead, .dead, .dead, .dead, .dead, .dead, .dead, .dead, .dead, .dead, .dead, .dead, .dead, .dead, .dead, .dead, .dead])],[(ah b),(jw b)]⟩) (by kernel_rfl) (by kernel_rfl) ?_
  refine EL.seq ?_
  refine EL.aq ?_
  refine OW.run 2 (x':=⟨[(8, .v (.int .u64 7)),(7,VI 7),(3,VI 7),(4,VI 7),(2,VI 3),(0, .af r [.dead, .ref 0 1 0 0, .ref 1 1 0 0, .dead, .dead, .dead, .dead, .dead, .dead, .dead, .dead, .dead, .dead, .dead, .dead, .dead, .dead, .dead, .dead, .dead, .dead, .dead, .dead, .dead, .dead, .dead, .dead, .dead, .dead, .dead, .dead, .dead, .dead, .dead, .dead, .dead, .dead])],[(ah b),(jw b)]⟩) (by kernel_rfl) ?_
  refine OW.fn (ar:=[.v (.int .u64 7)]) (x':=⟨[(9,VI (aI 7)),(8, .v (.int .u64 7)),(7,VI 7),(3,VI 7),(4,VI 7),(2,VI 3),(0, .af r [.dead, .ref 0 1 0 0, .ref 1 1 0 0, .dead, .dead, .dead, .dead, .dead, .dead, .dead, .dead, .dead, .dead, .dead, .dead, .dead, .dead, .dead, .dead, .dead, .dead, .dead, .dead, .dead, .dead, .dead, .dead, .dead, .dead, .dead, .dead, .dead, .dead, .dead, .dead, .dead, .dead])],[(ah b),(jw b)]⟩) (by kernel_rfl) (by kernel_rfl) b6 (ck 7 (by decide)) (by kernel_rfl) (by kernel_rfl) ?_
  refine OW.last 1 [0,2,3,4,10] (x':=⟨[(10, .v (.bool (decide ((aI 7)<2)))),(3,VI 7),(4,VI 7),(2,VI 3),(0, .af r [.dead, .ref 0 1 0 0, .ref 1 1 0 0, .dead, .dead, .dead, .dead, .dead, .dead, .dead, .dead, .dead, .dead, .dead, .dead, .dead, .dead, .dead, .dead, .dead, .dead, .dead, .dead, .dead, .dead, .dead, .dead, .dead, .dead, .dead, .dead, .dead, .dead, .dead, .dead, .dead, .dead])],[(ah b),(jw b)]⟩) (by kernel_rfl) (by kernel_rfl) ?_
  rw [k7]
  refine EL.aJ (by kernel_rfl) ?_
  refine EL.skip ?_
  refine tN ?_
  refine EL.seq ?_
  refine EL.norm [10,3,4,2,0] [uf 0,uf 1] [] (y:=⟨[(10, .v (.bool false)),(3,VI 7),(4,VI 7),(2,VI 3),(0, .af r [.dead, .ref 0 1 0 0, .ref 1 1 0 0, .dead, .dead, .dead, .dead, .dead, .dead, .dead, .dead, .dead, .dead, .dead, .dead, .dead, .dead, .dead, .dead, .dead, .dead, .dead, .dead, .dead, .dead, .dead, .dead, .dead, .dead, .dead, .dead, .dead, .dead, .dead, .dead, .dead, .dead])],[(ah b),(jw b)]⟩) (by kernel_rfl) trivial ?_
  refine EL.aq ?_
  refine OW.run 3 (x':=⟨[(13,VI 7),(12,VI 3),(11, .af r [.dead, .ref 0 1 0 0, .ref 1 1 0 0, .dead, .dead, .dead, .dead, .dead, .dead, .dead, .dead, .dead, .dead, .dead, .dead, .dead, .dead, .dead, .dead, .dead, .dead, .dead, .dead, .dead, .dead, .dead, .dead, .dead, .dead, .dead, .dead, .dead, .dead, .dead, .dead, .dead, .dead]),(10, .v (.bool false)),(3,VI 7),(4,VI 7),(2,VI 3),(0, .af r [.dead, .ref 0 1 0 0, .ref 1 1 0 0, .dead, .dead, .dead, .dead, .dead, .dead, .dead, .dead, .dead, .dead, .dead, .dead, .dead, .dead, .dead, .dead, .dead, .dead, .dead, .dead, .dead, .dead, .dead, .dead, .dead, .dead, .dead, .dead, .dead, .dead, .dead, .dead, .dead, .dead])],[(ah b),(jw b)]⟩) (by kernel_rfl) ?_
  refine OW.af (a:=(.s 11)) (args:=[(.s 12),(.s 13)]) (aa:=[VI 3,VI 7]) (kb:=2) (m':=[(ah b),(fg b)]) (x':=⟨[(14, .v (.bool true)),(13,VI 7),(12,VI 3),(11, .af r [.dead, .ref 0 1 0 0, .ref 1 1 0 0, .dead, .dead, .dead, .dead, .dead, .dead, .dead, .dead, .dead, .dead, .dead, .dead, .dead, .dead, .dead, .dead, .dead, .dead, .dead, .dead, .dead, .dead, .dead, .dead, .dead, .dead, .dead, .dead, .dead, .dead, .dead, .dead, .dead, .dead]),(10, .v (.bool false)),(3,VI 7),(4,VI 7),(2,VI 3),(0, .af r [.dead, .ref 0 1 0 0, .ref 1 1 0 0, .dead, .dead, .dead, .dead, .dead, .dead, .dead, .dead, .dead, .dead, .dead, .dead, .dead, .dead, .dead, .dead, .dead, .dead, .dead, .dead, .dead, .dead, .dead, .dead, .dead, .dead, .dead, .dead, .dead, .dead, .dead, .dead, .dead, .dead])],[(ah b),(fg b)]⟩) (by kernel_rfl) (by kernel_rfl) (by kernel_rfl) (by kernel_rfl) (by kernel_rfl) (by kernel_rfl) (HY (aW (b.toNat:Int) (aW (b.toNat:Int) (aW (b.toNat:Int) (0:Int) 0 3) 1 5) 2 6) 3 7 (by decide) (by decide)) (by kernel_rfl) ?_
  refine OW.last 1 [0,2,4,15] (x':=⟨[(15, .v (.bool false)),(4,VI 7),(2,VI 3),(0, .af r [.dead, .ref 0 1 0 0, .ref 1 1 0 0, .dead, .dead, .dead, .dead, .dead, .dead, .dead, .dead, .dead, .dead, .dead, .dead, .dead, .dead, .dead, .dead, .dead, .dead, .dead, .dead, .dead, .dead, .dead, .dead, .dead, .dead, .dead, .dead, .dead, .dead, .dead, .dead, .dead, .dead])],[(ah b),(fg b)]⟩) (by kernel_rfl) (by kernel_rfl) ?_
  refine EL.aJ (by kernel_rfl) ?_
  refine EL.skip ?_
  refine tN ?_
  refine EL.aF ?_
  refine OW.end 3 (x':=⟨[(2,VI 4),(17,VI 4),(16,VI 3),(15, .v (.bool false)),(4,VI 7),(0, .af r [.dead, .ref 0 1 0 0, .ref 1 1 0 0, .dead, .dead, .dead, .dead, .dead, .dead, .dead, .dead, .dead, .dead, .dead, .dead, .dead, .dead, .dead, .dead, .dead, .dead, .dead, .dead, .dead, .dead, .dead, .dead, .dead, .dead, .dead, .dead, .dead, .dead, .dead, .dead, .dead, .dead])],[(ah b),(fg b)]⟩) (by kernel_rfl) (by kernel_rfl) ?_
  refine iN ?_
  refine tN ?_
  refine EL.aF ?_
  refine OW.end 2 (x':=⟨[(4,VI 8),(18,VI 8),(2,VI 4),(17,VI 4),(16,VI 3),(15, .v (.bool false)),(0, .af r [.dead, .ref 0 1 0 0, .ref 1 1 0 0, .dead, .dead, .dead, .dead, .dead, .dead, .dead, .dead, .dead, .dead, .dead, .dead, .dead, .dead, .dead, .dead, .dead, .dead, .dead, .dead, .dead, .dead, .dead, .dead, .dead, .dead, .dead, .dead, .dead, .dead, .dead, .dead, .dead, .dead])],[(ah b),(fg b)]⟩) (by kernel_rfl) (by kernel_rfl) ?_
  refine tN ?_
  refine JU.step ?_
  refine EL.aq ?_
  refine OW.last 1 [0,2,4,5] (x':=⟨[(5, .v (.bool true)),(4,VI 8),(2,VI 4),(0, .af r [.dead, .ref 0 1 0 0, .ref 1 1 0 0, .dead, .dead, .dead, .dead, .dead, .dead, .dead, .dead, .dead, .dead, .dead, .dead, .dead, .dead, .dead, .dead, .dead, .dead, .dead, .dead, .dead, .dead, .dead, .dead, .dead, .dead, .dead, .dead, .dead, .dead, .dead, .dead, .dead, .dead])],[(ah b),(fg b)]⟩) (by kernel_rfl) (by kernel_rfl) ?_
  refine EL.seq ?_
  refine EL.aH (by kernel_rfl) ?_
  refine EL.skip ?_
  refine tN ?_
  refine EL.seq ?_
  refine EL.block ?_
  refine EL.aq ?_
  refine OW.last 2 [0,2,3,4] (x':=⟨[(3,VI 8),(4,VI 8),(2,VI 4),(0, .af r [.dead, .ref 0 1 0 0, .ref 1 1 0 0, .dead, .dead, .dead, .dead, .dead, .dead, .dead, .dead, .dead, .dead, .dead, .dead, .dead, .dead, .dead, .dead, .dead, .dead, .dead, .dead, .dead, .dead, .dead, .dead, .dead, .dead, .dead, .dead, .dead, .dead, .dead, .dead, .dead, .dead])],[(ah b),(fg b)]⟩) (by kernel_rfl) (by kernel_rfl) ?_
  refine EL.seq ?_
  refine EL.aq ?_
  refine OW.run 2 (x':=⟨[(8, .v (.int .u64 8)),(7,VI 8),(3,VI 8),(4,VI 8),(2,VI 4),(0, .af r [.dead, .ref 0 1 0 0, .ref 1 1 0 0, .dead, .dead, .dead, .dead, .dead, .dead, .dead, .dead, .dead, .dead, .dead, .dead, .dead, .dead, .dead, .dead, .dead, .dead, .dead, .dead, .dead, .dead, .dead, .dead, .dead, .dead, .dead, .dead, .dead, .dead, .dead, .dead, .dead, .dead])],[(ah b),(fg b)]⟩) (by kernel_rfl) ?_
  refine OW.fn (ar:=[.v (.int .u64 8)]) (x':=⟨[(9,VI (aI 8)),(8, .v (.int .u64 8)),(7,VI 8),(3,VI 8),(4,VI 8),(2,VI 4),(0, .af r [.dead, .ref 0 1 0 0, .ref 1 1 0 0, .dead, .dead, .dead, .dead, .dead, .dead, .dead, .dead, .dead, .dead, .dead, .dead, .dead, .dead, .dead, .dead, .dead, .dead, .dead, .dead, .dead, .dead, .dead, .dead, .dead, .dead, .dead, .dead, .dead, .dead, .dead, .dead, .dead, .dead])],[(ah b),(fg b)]⟩) (by kernel_rfl) (by kernel_rfl) b6 (ck 8 (by decide)) (by kernel_rfl) (by kernel_rfl) ?_
  refine OW.last 1 [0,2,3,4,10] (x':=⟨[(10, .v (.bool (decide ((aI 8)<2)))),(3,VI 8),(4,VI 8),(2,VI 4),(0, .af r [.dead, .ref 0 1 0 0, .ref 1 1 0 0, .dead, .dead, .dead, .dead, .dead, .dead, .dead, .dead, .dead, .dead, .dead, .dead, .dead, .dead, .dead, .dead, .dead, .dead, .dead, .dead, .dead, .dead, .dead, .dead, .dead, .dead, .dead, .dead, .dead, .dead, .dead, .dead, .dead, .dead])],[(ah b),(fg b)]⟩) (by kernel_rfl) (by kernel_rfl) ?_
  rw [k8]
  refine EL.aH (by kernel_rfl) ?_
  refine EL.exit ?_
  refine tX ?_
  refine iH ?_
  refine tN ?_
  refine EL.aF ?_
  refine OW.end 2 (x':=⟨[(4,VI 9),(18,VI 9),(10, .v (.bool true)),(3,VI 8),(2,VI 4),(0, .af r [.dead, .ref 0 1 0 0, .ref 1 1 0 0, .dead, .dead, .dead, .dead, .dead, .dead, .dead, .dead, .dead, .dead, .dead, .dead, .dead, .dead, .dead, .dead, .dead, .dead, .dead, .dead, .dead, .dead, .dead, .dead, .dead, .dead, .dead, .dead, .dead, .dead, .dead, .dead, .dead, .dead])],[(ah b),(fg b)]⟩) (by kernel_rfl) (by kernel_rfl) ?_
  refine tN ?_
  refine JU.step ?_
  refine EL.aq ?_
  refine OW.last 1 [0,2,4,5] (x':=⟨[(5, .v (.bool true)),(4,VI 9),(2,VI 4),(0, .af r [.dead, .ref 0 1 0 0, .ref 1 1 0 0, .dead, .dead, .dead, .dead, .dead, .dead, .dead, .dead, .dead, .dead, .dead, .dead, .dead, .dead, .dead, .dead, .dead, .dead, .dead, .dead, .dead, .dead, .dead, .dead, .dead, .dead, .dead, .dead, .dead, .dead, .dead, .dead, .dead, .dead])],[(ah b),(fg b)]⟩) (by kernel_rfl) (by kernel_rfl) ?_
  refine EL.seq ?_
  refine EL.aH (by kernel_rfl) ?_
  refine EL.skip ?_
  refine tN ?_
  refine EL.seq ?_
  refine EL.block ?_
  refine EL.aq ?_
  refine OW.last 2 [0,2,3,4] (x':=⟨[(3,VI 9),(4,VI 9),(2,VI 4),(0, .af r [.dead, .ref 0 1 0 0, .ref 1 1 0 0, .dead, .dead, .dead, .dead, .dead, .dead, .dead, .dead, .dead, .dead, .dead, .dead, .dead, .dead, .dead, .dead, .dead, .dead, .dead, .dead, .dead, .dead, .dead, .dead, .dead, .dead, .dead, .dead, .dead, .dead, .dead, .dead, .dead, .dead])],[(ah b),(fg b)]⟩) (by kernel_rfl) (by kernel_rfl) ?_
  refine EL.seq ?_
  refine EL.aq ?_
  refine OW.run 2 (x':=⟨[(8, .v (.int .u64 9)),(7,VI 9),(3,VI 9),(4,VI 9),(2,VI 4),(0, .af r [.dead, .ref 0 1 0 0, .ref 1 1 0 0, .dead, .dead, .dead, .dead, .dead, .dead, .dead, .dead, .dead, .dead, .dead, .dead, .dead, .dead, .dead, .dead, .dead, .dead, .dead, .dead, .dead, .dead, .dead, .dead, .dead, .dead, .dead, .dead, .dead, .dead, .dead, .dead, .dead, .dead])],[(ah b),(fg b)]⟩) (by kernel_rfl) ?_
  refine OW.fn (ar:=[.v (.int .u64 9)]) (x':=⟨[(9,VI (aI 9)),(8, .v (.int .u64 9)),(7,VI 9),(3,VI 9),(4,VI 9),(2,VI 4),(0, .af r [.dead, .ref 0 1 0 0, .ref 1 1 0 0, .dead, .dead, .dead, .dead, .dead, .dead, .dead, .dead, .dead, .dead, .dead, .dead, .dead, .dead, .dead, .dead, .dead, .dead, .dead, .dead, .dead, .dead, .dead, .dead, .dead, .dead, .dead, .dead, .dead, .dead, .dead, .dead, .dead, .dead])],[(ah b),(fg b)]⟩) (by kernel_rfl) (by kernel_rfl) b6 (ck 9 (by decide)) (by kernel_rfl) (by kernel_rfl) ?_
  refine OW.last 1 [0,2,3,4,10] (x':=⟨[(10, .v (.bool (decide ((aI 9)<2)))),(3,VI 9),(4,VI 9),(2,VI 4),(0, .af r [.dead, .ref 0 1 0 0, .ref 1 1 0 0, .dead, .dead, .dead, .dead, .dead, .dead, .dead, .dead, .dead, .dead, .dead, .dead, .dead, .dead, .dead, .dead, .dead, .dead, .dead, .dead, .dead, .dead, .dead, .dead, .dead, .dead, .dead, .dead, .dead, .dead, .dead, .dead, .dead, .dead])],[(ah b),(fg b)]⟩) (by kernel_rfl) (by kernel_rfl) ?_
  rw [k9]
  refine EL.aJ (by kernel_rfl) ?_
  refine EL.skip ?_
  refine tN ?_
  refine EL.seq ?_
  refine EL.norm [10,3,4,2,0] [uf 0,uf 1] [] (y:=⟨[(10, .v (.bool false)),(3,VI 9),(4,VI 9),(2,VI 4),(0, .af r [.dead, .ref 0 1 0 0, .ref 1 1 0 0, .dead, .dead, .dead, .dead, .dead, .dead, .dead, .dead, .dead, .dead, .dead, .dead, .dead, .dead, .dead, .dead, .dead, .dead, .dead, .dead, .dead, .dead, .dead, .dead, .dead, .dead, .dead, .dead, .dead, .dead, .dead, .dead, .dead, .dead])],[(ah b),(fg b)]⟩) (by kernel_rfl) trivial ?_
  refine EL.aq ?_
  refine OW.run 3 (x':=⟨[(13,VI 9),(12,VI 4),(11, .af r [.dead, .ref 0 1 0 0, .ref 1 1 0 0, .dead, .dead, .dead, .dead, .dead, .dead, .dead, .dead, .dead, .dead, .dead, .dead, .dead, .dead, .dead, .dead, .dead, .dead, .dead, .dead, .dead, .dead, .dead, .dead, .dead, .dead, .dead, .dead, .dead, .dead, .dead, .dead, .dead, .dead]),(10, .v (.bool false)),(3,VI 9),(4,VI 9),(2,VI 4),(0, .af r [.dead, .ref 0 1 0 0, .ref 1 1 0 0, .dead, .dead, .dead, .dead, .dead, .dead, .dead, .dead, .dead, .dead, .dead, .dead, .dead, .dead, .dead, .dead, .dead, .dead, .dead, .dead, .dead, .dead, .dead, .dead, .dead, .dead, .dead, .dead, .dead, .dead, .dead, .dead, .dead, .dead])],[(ah b),(fg b)]⟩) (by kernel_rfl) ?_
  refine OW.af (a:=(.s 11)) (args:=[(.s 12),(.s 13)]) (aa:=[VI 4,VI 9]) (kb:=2) (m':=[(ah b),(jx b)]) (x':=⟨[(14, .v (.bool true)),(13,VI 9),(12,VI 4),(11, .af r [.dead, .ref 0 1 0 0, .ref 1 1 0 0, .dead, .dead, .dead, .dead, .dead, .dead, .dead, .dead, .dead, .dead, .dead, .dead, .dead, .dead, .dead, .dead, .dead, .dead, .dead, .dead, .dead, .dead, .dead, .dead, .dead, .dead, .dead, .dead, .dead, .dead, .dead, .dead, .dead, .dead]),(10, .v (.bool false)),(3,VI 9),(4,VI 9),(2,VI 4),(0, .af r [.dead, .ref 0 1 0 0, .ref 1 1 0 0, .dead, .dead, .dead, .dead, .dead, .dead, .dead, .dead, .dead, .dead, .dead, .dead, .dead, .dead, .dead, .dead, .dead, .dead, .dead, .dead, .dead, .dead, .dead, .dead, .dead, .dead, .dead, .dead, .dead, .dead, .dead, .dead, .dead, .dead])],[(ah b),(jx b)]⟩) (by kernel_rfl) (by kernel_rfl) (by kernel_rfl) (by kernel_rfl) (by kernel_rfl) (by kernel_rfl) (HY (aW (b.toNat:Int) (aW (b.toNat:Int) (aW (b.toNat:Int) (aW (b.toNat:Int) (0:Int) 0 3) 1 5) 2 6) 3 7) 4 9 (by decide) (by decide)) (by kernel_rfl) ?_
  refine OW.last 1 [0,2,4,15] (x':=⟨[(15, .v (.bool false)),(4,VI 9),(2,VI 4),(0, .af r [.dead, .ref 0 1 0 0, .ref 1 1 0 0, .dead, .dead, .dead, .dead, .dead, .dead, .dead, .dead, .dead, .dead, .dead, .dead, .dead, .dead, .dead, .dead, .dead, .dead, .dead, .dead, .dead, .dead, .dead, .dead, .dead, .dead, .dead, .dead, .dead, .dead, .dead, .dead, .dead, .dead])],[(ah b),(jx b)]⟩) (by kernel_rfl) (by kernel_rfl) ?_
  refine EL.aJ (by kernel_rfl) ?_
  refine EL.skip ?_
  refine tN ?_
  refine EL.aF ?_
  refine OW.end 3 (x':=⟨[(2,VI 5),(17,VI 5),(16,VI 4),(15, .v (.bool false)),(4,VI 9),(0, .af r [.dead, .ref 0 1 0 0, .ref 1 1 0 0, .dead, .dead, .dead, .dead, .dead, .dead, .dead, .dead, .dead, .dead, .dead, .dead, .dead, .dead, .dead, .dead, .dead, .dead, .dead, .dead, .dead, .dead, .dead, .dead, .dead, .dead, .dead, .dead, .dead, .dead, .dead, .dead, .dead, .dead])],[(ah b),(jx b)]⟩) (by kernel_rfl) (by kernel_rfl) ?_
  refine iN ?_
  refine tN ?_
  refine EL.aF ?_
  refine OW.end 2 (x':=⟨[(4,VI 10),(18,VI 10),(2,VI 5),(17,VI 5),(16,VI 4),(15, .v (.bool false)),(0, .af r [.dead, .ref 0 1 0 0, .ref 1 1 0 0, .dead, .dead, .dead, .dead, .dead, .dead, .dead, .dead, .dead, .dead, .dead, .dead, .dead, .dead, .dead, .dead, .dead, .dead, .dead, .dead, .dead, .dead, .dead, .dead, .dead, .dead, .dead, .dead, .dead, .dead, .dead, .dead, .dead, .dead])],[(ah b),(jx b)]⟩) (by kernel_rfl) (by kernel_rfl) ?_
  refine tN ?_
  refine JU.step ?_
  refine EL.aq ?_
  refine OW.last 1 [0,2,4,5] (x':=⟨[(5, .v (.bool true)),(4,VI 10),(2,VI 5),(0, .af r [.dead, .ref 0 1 0 0, .ref 1 1 0 0, .dead, .dead, .dead, .dead, .dead, .dead, .dead, .dead, .dead, .dead, .dead, .dead, .dead, .dead, .dead, .dead, .dead, .dead, .dead, .dead, .dead, .dead, .dead, .dead, .dead, .dead, .dead, .dead, .dead, .dead, .dead, .dead, .dead, .dead])],[(ah b),(jx b)]⟩) (by kernel_rfl) (by kernel_rfl) ?_
  refine EL.seq ?_
  refine EL.aH (by kernel_rfl) ?_
  refine EL.skip ?_
  refine tN ?_
  refine EL.seq ?_
  refine EL.block ?_
  refine EL.aq ?_
  refine OW.last 2 [0,2,3,4] (x':=⟨[(3,VI 10),(4,VI 10),(2,VI 5),(0, .af r [.dead, .ref 0 1 0 0, .ref 1 1 0 0, .dead, .dead, .dead, .dead, .dead, .dead, .dead, .dead, .dead, .dead, .dead, .dead, .dead, .dead, .dead, .dead, .dead, .dead, .dead, .dead, .dead, .dead, .dead, .dead, .dead, .dead, .dead, .dead, .dead, .dead, .dead, .dead, .dead, .dead])],[(ah b),(jx b)]⟩) (by kernel_rfl) (by kernel_rfl) ?_
  refine EL.seq ?_
  refine EL.aq ?_
  refine OW.run 2 (x':=⟨[(8, .v (.int .u64 10)),(7,VI 10),(3,VI 10),(4,VI 10),(2,VI 5),(0, .af r [.dead, .ref 0 1 0 0, .ref 1 1 0 0, .dead, .dead, .dead, .dead, .dead, .dead, .dead, .dead, .dead, .dead, .dead, .dead, .dead, .dead, .dead, .dead, .dead, .dead, .dead, .dead, .dead, .dead, .dead, .dead, .dead, .dead, .dead, .dead, .dead, .dead, .dead, .dead, .dead, .dead])],[(ah b),(jx b)]⟩) (by kernel_rfl) ?_
  refine OW.fn (ar:=[.v (.int .u64 10)]) (x':=⟨[(9,VI (aI 10)),(8, .v (.int .u64 10)),(7,VI 10),(3,VI 10),(4,VI 10),(2,VI 5),(0, .af r [.dead, .ref 0 1 0 0, .ref 1 1 0 0, .dead, .dead, .dead, .dead, .dead, .dead, .dead, .dead, .dead, .dead, .dead, .dead, .dead, .dead, .dead, .dead, .dead, .dead, .dead, .dead, .dead, .dead, .dead, .dead, .dead, .dead, .dead, .dead, .dead, .dead, .dead, .dead, .dead, .dead])],[(ah b),(jx b)]⟩) (by kernel_rfl) (by kernel_rfl) b6 (ck 10 (by decide)) (by kernel_rfl) (by kernel_rfl) ?_
  refine OW.last 1 [0,2,3,4,10] (x':=⟨[(10, .v (.bool (decide ((aI 10)<2)))),(3,VI 10),(4,VI 10),(2,VI 5),(0, .af r [.dead, .ref 0 1 0 0, .ref 1 1 0 0, .dead, .dead, .dead, .dead, .dead, .dead, .dead, .dead, .dead, .dead, .dead, .dead, .dead, .dead, .dead, .dead, .dead, .dead, .dead, .dead, .dead, .dead, .dead, .dead, .dead, .dead, .dead, .dead, .dead, .dead, .dead, .dead, .dead, .dead])],[(ah b),(jx b)]⟩) (by kernel_rfl) (by kernel_rfl) ?_
  rw [vH]
  refine EL.aJ (by kernel_rfl) ?_
  refine EL.skip ?_
  refine tN ?_
  refine EL.seq ?_
  refine EL.norm [10,3,4,2,0] [uf 0,uf 1] [] (y:=⟨[(10, .v (.bool false)),(3,VI 10),(4,VI 10),(2,VI 5),(0, .af r [.dead, .ref 0 1 0 0, .ref 1 1 0 0, .dead, .dead, .dead, .dead, .dead, .dead, .dead, .dead, .dead, .dead, .dead, .dead, .dead, .dead, .dead, .dead, .dead, .dead, .dead, .dead, .dead, .dead, .dead, .dead, .dead, .dead, .dead, .dead, .dead, .dead, .dead, .dead, .dead, .dead])],[(ah b),(jx b)]⟩) (by kernel_rfl) trivial ?_
  refine EL.aq ?_
  refine OW.run 3 (x':=⟨[(13,VI 10),(12,VI 5),(11, .af r [.dead, .ref 0 1 0 0, .ref 1 1 0 0, .dead, .dead, .dead, .dead, .dead, .dead, .dead, .dead, .dead, .dead, .dead, .dead, .dead, .dead, .dead, .dead, .dead, .dead, .dead, .dead, .dead, .dead, .dead, .dead, .dead, .dead, .dead, .dead, .dead, .dead, .dead, .dead, .dead, .dead]),(10, .v (.bool false)),(3,VI 10),(4,VI 10),(2,VI 5),(0, .af r [.dead, .ref 0 1 0 0, .ref 1 1 0 0, .dead, .dead, .dead, .dead, .dead, .dead, .dead, .dead, .dead, .dead, .dead, .dead, .dead, .dead, .dead, .dead, .dead, .dead, .dead, .dead, .dead, .dead, .dead, .dead, .dead, .dead, .dead, .dead, .dead, .dead, .dead, .dead, .dead, .dead])],[(ah b),(jx b)]⟩) (by kernel_rfl) ?_
  refine OW.af (a:=(.s 11)) (args:=[(.s 12),(.s 13)]) (aa:=[VI 5,VI 10]) (kb:=2) (m':=[(ah b),(jy b)]) (x':=⟨[(14, .v (.bool true)),(13,VI 10),(12,VI 5),(11, .af r [.dead, .ref 0 1 0 0, .ref 1 1 0 0, .dead, .dead, .dead, .dead, .dead, .dead, .dead, .dead, .dead, .dead, .dead, .dead, .dead, .dead, .dead, .dead, .dead, .dead, .dead, .dead, .dead, .dead, .dead, .dead, .dead, .dead, .dead, .dead, .dead, .dead, .dead, .dead, .dead, .dead]),(10, .v (.bool false)),(3,VI 10),(4,VI 10),(2,VI 5),(0, .af r [.dead, .ref 0 1 0 0, .ref 1 1 0 0, .dead, .dead, .dead, .dead, .dead, .dead, .dead, .dead, .dead, .dead, .dead, .dead, .dead, .dead, .dead, .dead, .dead, .dead, .dead, .dead, .dead, .dead, .dead, .dead, .dead, .dead, .dead, .dead, .dead, .dead, .dead, .dead, .dead, .dead])],[(ah b),(jy b)]⟩) (by kernel_rfl) (by kernel_rfl) (by kernel_rfl) (by kernel_rfl) (by kernel_rfl) (by kernel_rfl) (HY (aW (b.toNat:Int) (aW (b.toNat:Int) (aW (b.toNat:Int) (aW (b.toNat:Int) (aW (b.toNat:Int) (0:Int) 0 3) 1 5) 2 6) 3 7) 4 9) 5 10 (by decide) (by decide)) (by kernel_rfl) ?_
  refine OW.last 1 [0,2,4,15] (x':=⟨[(15, .v (.bool false)),(4,VI 10),(2,VI 5),(0, .af r [.dead, .ref 0 1 0 0, .ref 1 1 0 0, .dead, .dead, .dead, .dead, .dead, .dead, .dead, .dead, .dead, .dead, .dead, .dead, .dead, .dead, .dead, .dead, .dead, .dead, .dead, .dead, .dead, .dead, .dead, .dead, .dead, .dead, .dead, .dead, .dead, .dead, .dead, .dead, .dead, .dead])],[(ah b),(jy b)]⟩) (by kernel_rfl) (by kernel_rfl) ?_
  refine EL.aJ (by kernel_rfl) ?_
  refine EL.skip ?_
  refine tN ?_
  refine EL.aF ?_
  refine OW.end 3 (x':=⟨[(2,VI 6),(17,VI 6),(16,VI 5),(15, .v (.bool false)),(4,VI 10),(0, .af r [.dead, .ref 0 1 0 0, .ref 1 1 0 0, .dead, .dead, .dead, .dead, .dead, .dead, .dead, .dead, .dead, .dead, .dead, .dead, .dead, .dead, .dead, .dead, .dead, .dead, .dead, .dead, .dead, .dead, .dead, .dead, .dead, .dead, .dead, .dead, .dead, .dead, .dead, .dead, .dead, .dead])],[(ah b),(jy b)]⟩) (by kernel_rfl) (by kernel_rfl) ?_
  refine iN ?_
  refine tN ?_
  refine EL.aF ?_
  refine OW.end 2 (x':=⟨[(4,VI 11),(18,VI 11),(2,VI 6),(17,VI 6),(16,VI 5),(15, .v (.bool false)),(0, .af r [.dead, .ref 0 1 0 0, .ref 1 1 0 0, .dead, .dead, .dead, .dead, .dead, .dead, .dead, .dead, .dead, .dead, .dead, .dead, .dead, .dead, .dead, .dead, .dead, .dead, .dead, .dead, .dead, .dead, .dead, .dead, .dead, .dead, .dead, .dead, .dead, .dead, .dead, .dead, .dead, .dead])],[(ah b),(jy b)]⟩) (by kernel_rfl) (by kernel_rfl) ?_
  refine tN ?_
  refine JU.step ?_
  refine EL.aq ?_
  refine OW.last 1 [0,2,4,5] (x':=⟨[(5, .v (.bool true)),(4,VI 11),(2,VI 6),(0, .af r [.dead, .ref 0 1 0 0, .ref 1 1 0 0, .dead, .dead, .dead, .dead, .dead, .dead, .dead, .dead, .dead, .dead, .dead, .dead, .dead, .dead, .dead, .dead, .dead, .dead, .dead, .dead, .dead, .dead, .dead, .dead, .dead, .dead, .dead, .dead, .dead, .dead, .dead, .dead, .dead, .dead])],[(ah b),(jy b)]⟩) (by kernel_rfl) (by kernel_rfl) ?_
  refine EL.seq ?_
  refine EL.aH (by kernel_rfl) ?_
  refine EL.skip ?_
  refine tN ?_
  refine EL.seq ?_
  refine EL.block ?_
  refine EL.aq ?_
  refine OW.last 2 [0,2,3,4] (x':=⟨[(3,VI 11),(4,VI 11),(2,VI 6),(0, .af r [.dead, .ref 0 1 0 0, .ref 1 1 0 0, .dead, .dead, .dead, .dead, .dead, .dead, .dead, .dead, .dead, .dead, .dead, .dead, .dead, .dead, .dead, .dead, .dead, .dead, .dead, .dead, .dead, .dead, .dead, .dead, .dead, .dead, .dead, .dead, .dead, .dead, .dead, .dead, .dead, .dead])],[(ah b),(jy b)]⟩) (by kernel_rfl) (by kernel_rfl) ?_
  refine EL.seq ?_
  refine EL.aq ?_
  refine OW.run 2 (x':=⟨[(8, .v (.int .u64 11)),(7,VI 11),(3,VI 11),(4,VI 11),(2,VI 6),(0, .af r [.dead, .ref 0 1 0 0, .ref 1 1 0 0, .dead, .dead, .dead, .dead, .dead, .dead, .dead, .dead, .dead, .dead, .dead, .dead, .dead, .dead, .dead, .dead, .dead, .dead, .dead, .dead, .dead, .dead, .dead, .dead, .dead, .dead, .dead, .dead, .dead, .dead, .dead, .dead, .dead, .dead])],[(ah b),(jy b)]⟩) (by kernel_rfl) ?_
  refine OW.fn (ar:=[.v (.int .u64 11)]) (x':=⟨[(9,VI (aI 11)),(8, .v (.int .u64 11)),(7,VI 11),(3,VI 11),(4,VI 11),(2,VI 6),(0, .af r [.dead, .ref 0 1 0 0, .ref 1 1 0 0, .dead, .dead, .dead, .dead, .dead, .dead, .dead, .dead, .dead, .dead, .dead, .dead, .dead, .dead, .dead, .dead, .dead, .dead, .dead, .dead, .dead, .dead, .dead, .dead, .dead, .dead, .dead, .dead, .dead, .dead, .dead, .dead, .dead, .dead])],[(ah b),(jy b)]⟩) (by kernel_rfl) (by kernel_rfl) b6 (ck 11 (by decide)) (by kernel_rfl) (by kernel_rfl) ?_
  refine OW.last 1 [0,2,3,4,10] (x':=⟨[(10, .v (.bool (decide ((aI 11)<2)))),(3,VI 11),(4,VI 11),(2,VI 6),(0, .af r [.dead, .ref 0 1 0 0, .ref 1 1 0 0, .dead, .dead, .dead, .dead, .dead, .dead, .dead, .dead, .dead, .dead, .dead, .dead, .dead, .dead, .dead, .dead, .dead, .dead, .dead, .dead, .dead, .dead, .dead, .dead, .dead, .dead, .dead, .dead, .dead, .dead, .dead, .dead, .dead, .dead])],[(ah b),(jy b)]⟩) (by kernel_rfl) (by kernel_rfl) ?_
  rw [vI]
  refine EL.aJ (by kernel_rfl) ?_
  refine EL.skip ?_
  refine tN ?_
  refine EL.seq ?_
  refine EL.norm [10,3,4,2,0] [uf 0,uf 1] [] (y:=⟨[(10, .v (.bool false)),(3,VI 11),(4,VI 11),(2,VI 6),(0, .af r [.dead, .ref 0 1 0 0, .ref 1 1 0 0, .dead, .dead, .dead, .dead, .dead, .dead, .dead, .dead, .dead, .dead, .dead, .dead, .dead, .dead, .dead, .dead, .dead, .dead, .dead, .dead, .dead, .dead, .dead, .dead, .dead, .dead, .dead, .dead, .dead, .dead, .dead, .dead, .dead, .dead])],[(ah b),(jy b)]⟩) (by kernel_rfl) trivial ?_
  refine EL.aq ?_
  refine OW.run 3 (x':=⟨[(13,VI 11),(12,VI 6),(11, .af r [.dead, .ref 0 1 0 0, .ref 1 1 0 0, .dead, .dead, .dead, .dead, .dead, .dead, .dead, .dead, .dead, .dead, .dead, .dead, .dead, .dead, .dead, .dead, .dead, .dead, .dead, .dead, .dead, .dead, .dead, .dead, .dead, .dead, .dead, .dead, .dead, .dead, .dead, .dead, .dead, .dead]),(10, .v (.bool false)),(3,VI 11),(4,VI 11),(2,VI 6),(0, .af r [.dead, .ref 0 1 0 0, .ref 1 1 0 0, .dead, .dead, .dead, .dead, .dead, .dead, .dead, .dead, .dead, .dead, .dead, .dead, .dead, .dead, .dead, .dead, .dead, .dead, .dead, .dead, .dead, .dead, .dead, .dead, .dead, .dead, .dead, .dead, .dead, .dead, .dead, .dead, .dead, .dead])],[(ah b),(jy b)]⟩) (by kernel_rfl) ?_
  refine OW.af (a:=(.s 11)) (args:=[(.s 12),(.s 13)]) (aa:=[VI 6,VI 11]) (kb:=2) (m':=[(ah b),(jz b)]) (x':=⟨[(14, .v (.bool true)),(13,VI 11),(12,VI 6),(11, .af r [.dead, .ref 0 1 0 0, .ref 1 1 0 0, .dead, .dead, .dead, .dead, .dead, .dead, .dead, .dead, .dead, .dead, .dead, .dead, .dead, .dead, .dead, .dead, .dead, .dead, .dead, .dead, .dead, .dead, .dead, .dead, .dead, .dead, .dead, .dead, .dead, .dead, .dead, .dead, .dead, .dead]),(10, .v (.bool false)),(3,VI 11),(4,VI 11),(2,VI 6),(0, .af r [.dead, .ref 0 1 0 0, .ref 1 1 0 0, .dead, .dead, .dead, .dead, .dead, .dead, .dead, .dead, .dead, .dead, .dead, .dead, .dead, .dead, .dead, .dead, .dead, .dead, .dead, .dead, .dead, .dead, .dead, .dead, .dead, .dead, .dead, .dead, .dead, .dead, .dead, .dead, .dead, .dead])],[(ah b),(jz b)]⟩) (by kernel_rfl) (by kernel_rfl) (by kernel_rfl) (by kernel_rfl) (by kernel_rfl) (by kernel_rfl) (HY (aW (b.toNat:Int) (aW (b.toNat:Int) (aW (b.toNat:Int) (aW (b.toNat:Int) (aW (b.toNat:Int) (aW (b.toNat:Int) (0:Int) 0 3) 1 5) 2 6) 3 7) 4 9) 5 10) 6 11 (by decide) (by decide)) (by kernel_rfl) ?_
  refine OW.last 1 [0,2,4,15] (x':=⟨[(15, .v (.bool false)),(4,VI 11),(2,VI 6),(0, .af r [.dead, .ref 0 1 0 0, .ref 1 1 0 0, .dead, .dead, .dead, .dead, .dead, .dead, .dead, .dead, .dead, .dead, .dead, .dead, .dead, .dead, .dead, .dead, .dead, .dead, .dead, .dead, .dead, .dead, .dead, .dead, .dead, .dead, .dead, .dead, .dead, .dead, .dead, .dead, .dead, .dead])],[(ah b),(jz b)]⟩) (by kernel_rfl) (by kernel_rfl) ?_
  refine EL.aJ (by kernel_rfl) ?_
  refine EL.skip ?_
  refine tN ?_
  refine EL.aF ?_
  refine OW.end 3 (x':=⟨[(2,VI 7),(17,VI 7),(16,VI 6),(15, .v (.bool false)),(4,VI 11),(0, .af r [.dead, .ref 0 1 0 0, .ref 1 1 0 0, .dead, .dead, .dead, .dead, .dead, .dead, .dead, .dead, .dead, .dead, .dead, .dead, .dead, .dead, .dead, .dead, .dead, .dead, .dead, .dead, .dead, .dead, .dead, .dead, .dead, .dead, .dead, .dead, .dead, .dead, .dead, .dead, .dead, .dead])],[(ah b),(jz b)]⟩) (by kernel_rfl) (by kernel_rfl) ?_
  refine iN ?_
  refine tN ?_
  refine EL.aF ?_
  refine OW.end 2 (x':=⟨[(4,VI 12),(18,VI 12),(2,VI 7),(17,VI 7),(16,VI 6),(15, .v (.bool false)),(0, .af r [.dead, .ref 0 1 0 0, .ref 1 1 0 0, .dead, .dead, .dead, .dead, .dead, .dead, .dead, .dead, .dead, .dead, .dead, .dead, .dead, .dead, .dead, .dead, .dead, .dead, .dead, .dead, .dead, .dead, .dead, .dead, .dead, .dead, .dead, .dead, .dead, .dead, .dead, .dead, .dead, .dead])],[(ah b),(jz b)]⟩) (by kernel_rfl) (by kernel_rfl) ?_
  refine tN ?_
  refine JU.step ?_
  refine EL.aq ?_
  refine OW.last 1 [0,2,4,5] (x':=⟨[(5, .v (.bool true)),(4,VI 12),(2,VI 7),(0, .af r [.dead, .ref 0 1 0 0, .ref 1 1 0 0, .dead, .dead, .dead, .dead, .dead, .dead, .dead, .dead, .dead, .dead, .dead, .dead, .dead, .dead, .dead, .dead, .dead, .dead, .dead, .dead, .dead, .dead, .dead, .dead, .dead, .dead, .dead, .dead, .dead, .dead, .dead, .dead, .dead, .dead])],[(ah b),(jz b)]⟩) (by kernel_rfl) (by kernel_rfl) ?_
  refine EL.seq ?_
  refine EL.aH (by kernel_rfl) ?_
  refine EL.skip ?_
  refine tN ?_
  refine EL.seq ?_
  refine EL.block ?_
  refine EL.aq ?_
  refine OW.last 2 [0,2,3,4] (x':=⟨[(3,VI 12),(4,VI 12),(2,VI 7),(0, .af r [.dead, .ref 0 1 0 0, .ref 1 1 0 0, .dead, .dead, .dead, .dead, .dead, .dead, .dead, .dead, .dead, .dead, .dead, .dead, .dead, .dead, .dead, .dead, .dead, .dead, .dead, .dead, .dead, .dead, .dead, .dead, .dead, .dead, .dead, .dead, .dead, .dead, .dead, .dead, .dead, .dead])],[(ah b),(jz b)]⟩) (by kernel_rfl) (by kernel_rfl) ?_
  refine EL.seq ?_
  refine EL.aq ?_
  refine OW.run 2 (x':=⟨[(8, .v (.int .u64 12)),(7,VI 12),(3,VI 12),(4,VI 12),(2,VI 7),(0, .af r [.dead, .ref 0 1 0 0, .ref 1 1 0 0, .dead, .dead, .dead, .dead, .dead, .dead, .dead, .dead, .dead, .dead, .dead, .dead, .dead, .dead, .dead, .dead, .dead, .dead, .dead, .dead, .dead, .dead, .dead, .dead, .dead, .dead, .dead, .dead, .dead, .dead, .dead, .dead, .dead, .dead])],[(ah b),(jz b)]⟩) (by kernel_rfl) ?_
  refine OW.fn (ar:=[.v (.int .u64 12)]) (x':=⟨[(9,VI (aI 12)),(8, .v (.int .u64 12)),(7,VI 12),(3,VI 12),(4,VI 12),(2,VI 7),(0, .af r [.dead, .ref 0 1 0 0, .ref 1 1 0 0, .dead, .dead, .dead, .dead, .dead, .dead, .dead, .dead, .dead, .dead, .dead, .dead, .dead, .dead, .dead, .dead, .dead, .dead, .dead, .dead, .dead, .dead, .dead, .dead, .dead, .dead, .dead, .dead, .dead, .dead, .dead, .dead, .dead, .dead])],[(ah b),(jz b)]⟩) (by kernel_rfl) (by kernel_rfl) b6 (ck 12 (by decide)) (by kernel_rfl) (by kernel_rfl) ?_
  refine OW.last 1 [0,2,3,4,10] (x':=⟨[(10, .v (.bool (decide ((aI 12)<2)))),(3,VI 12),(4,VI 12),(2,VI 7),(0, .af r [.dead, .ref 0 1 0 0, .ref 1 1 0 0, .dead, .dead, .dead, .dead, .dead, .dead, .dead, .dead, .dead, .dead, .dead, .dead, .dead, .dead, .dead, .dead, .dead, .dead, .dead, .dead, .dead, .dead, .dead, .dead, .dead, .dead, .dead, .dead, .dead, .dead, .dead, .dead, .dead, .dead])],[(ah b),(jz b)]⟩) (by kernel_rfl) (by kernel_rfl) ?_
  rw [vJ]
  refine EL.aJ (by kernel_rfl) ?_
  refine EL.skip ?_
  refine tN ?_
  refine EL.seq ?_
  refine EL.norm [10,3,4,2,0] [uf 0,uf 1] [] (y:=⟨[(10, .v (.bool false)),(3,VI 12),(4,VI 12),(2,VI 7),(0, .af r [.dead, .ref 0 1 0 0, .ref 1 1 0 0, .dead, .dead, .dead, .dead, .dead, .dead, .dead, .dead, .dead, .dead, .dead, .dead, .dead, .dead, .dead, .dead, .dead, .dead, .dead, .dead, .dead, .dead, .dead, .dead, .dead, .dead, .dead, .dead, .dead, .dead, .dead, .dead, .dead, .dead])],[(ah b),(jz b)]⟩) (by kernel_rfl) trivial ?_
  refine EL.aq ?_
  refine OW.run 3 (x':=⟨[(13,VI 12),(12,VI 7),(11, .af r [.dead, .ref 0 1 0 0, .ref 1 1 0 0, .dead, .dead, .dead, .dead, .dead, .dead, .dead, .dead, .dead, .dead, .dead, .dead, .dead, .dead, .dead, .dead, .dead, .dead, .dead, .dead, .dead, .dead, .dead, .dead, .dead, .dead, .dead, .dead, .dead, .dead, .dead, .dead, .dead, .dead]),(10, .v (.bool false)),(3,VI 12),(4,VI 12),(2,VI 7),(0, .af r [.dead, .ref 0 1 0 0, .ref 1 1 0 0, .dead, .dead, .dead, .dead, .dead, .dead, .dead, .dead, .dead, .dead, .dead, .dead, .dead, .dead, .dead, .dead, .dead, .dead, .dead, .dead, .dead, .dead, .dead, .dead, .dead, .dead, .dead, .dead, .dead, .dead, .dead, .dead, .dead, .dead])],[(ah b),(jz b)]⟩) (by kernel_rfl) ?_
  refine OW.af (a:=(.s 11)) (args:=[(.s 12),(.s 13)]) (aa:=[VI 7,VI 12]) (kb:=2) (m':=[(ah b),(oE b)]) (x':=⟨[(14, .v (.bool true)),(13,VI 12),(12,VI 7),(11, .af r [.dead, .ref 0 1 0 0, .ref 1 1 0 0, .dead, .dead, .dead, .dead, .dead, .dead, .dead, .dead, .dead, .dead, .dead, .dead, .dead, .dead, .dead, .dead, .dead, .dead, .dead, .dead, .dead, .dead, .dead, .dead, .dead, .dead, .dead, .dead, .dead, .dead, .dead, .dead, .dead, .dead]),(10, .v (.bool false)),(3,VI 12),(4,VI 12),(2,VI 7),(0, .af r [.dead, .ref 0 1 0 0, .ref 1 1 0 0, .dead, .dead, .dead, .dead, .dead, .dead, .dead, .dead, .dead, .dead, .dead, .dead, .dead, .dead, .dead, .dead, .dead, .dead, .dead, .dead, .dead, .dead, .dead, .dead, .dead, .dead, .dead, .dead, .dead, .dead, .dead, .dead, .dead, .dead])],[(ah b),(oE b)]⟩) (by kernel_rfl) (by kernel_rfl) (by kernel_rfl) (by kernel_rfl) (by kernel_rfl) (by kernel_rfl) (HY (aW (b.toNat:Int) (aW (b.toNat:Int) (aW (b.toNat:Int) (aW (b.toNat:Int) (aW (b.toNat:Int) (aW (b.toNat:Int) (aW (b.toNat:Int) (0:Int) 0 3) 1 5) 2 6) 3 7) 4 9) 5 10) 6 11) 7 12 (by decide) (by decide)) (by kernel_rfl) ?_
  refine OW.last 1 [0,2,4,15] (x':=⟨[(15, .v (.bool false)),(4,VI 12),(2,VI 7),(0, .af r [.dead, .ref 0 1 0 0, .ref 1 1 0 0, .dead, .dead, .dead, .dead, .dead, .dead, .dead, .dead, .dead, .dead, .dead, .dead, .dead, .dead, .dead, .dead, .dead, .dead, .dead, .dead, .dead, .dead, .dead, .dead, .dead, .dead, .dead, .dead, .dead, .dead, .dead, .dead, .dead, .dead])],[(ah b),(oE b)]⟩) (by kernel_rfl) (by kernel_rfl) ?_
  refine EL.aJ (by kernel_rfl) ?_
  refine EL.skip ?_
  refine tN ?_
  refine EL.aF ?_
  refine OW.end 3 (x':=⟨[(2,VI 8),(17,VI 8),(16,VI 7),(15, .v (.bool false)),(4,VI 12),(0, .af r [.dead, .ref 0 1 0 0, .ref 1 1 0 0, .dead, .dead, .dead, .dead, .dead, .dead, .dead, .dead, .dead, .dead, .dead, .dead, .dead, .dead, .dead, .dead, .dead, .dead, .dead, .dead, .dead, .dead, .dead, .dead, .dead, .dead, .dead, .dead, .dead, .dead, .dead, .dead, .dead, .dead])],[(ah b),(oE b)]⟩) (by kernel_rfl) (by kernel_rfl) ?_
  refine iN ?_
  refine tN ?_
  refine EL.aF ?_
  refine OW.end 2 (x':=⟨[(4,VI 13),(18,VI 13),(2,VI 8),(17,VI 8),(16,VI 7),(15, .v (.bool false)),(0, .af r [.dead, .ref 0 1 0 0, .ref 1 1 0 0, .dead, .dead, .dead, .dead, .dead, .dead, .dead, .dead, .dead, .dead, .dead, .dead, .dead, .dead, .dead, .dead, .dead, .dead, .dead, .dead, .dead, .dead, .dead, .dead, .dead, .dead, .dead, .dead, .dead, .dead, .dead, .dead, .dead, .dead])],[(ah b),(oE b)]⟩) (by kernel_rfl) (by kernel_rfl) ?_
  refine tN ?_
  refine JU.step ?_
  refine EL.aq ?_
  refine OW.last 1 [0,2,4,5] (x':=⟨[(5, .v (.bool false)),(4,VI 13),(2,VI 8),(0, .af r [.dead, .ref 0 1 0 0, .ref 1 1 0 0, .dead, .dead, .dead, .dead, .dead, .dead, .dead, .dead, .dead, .dead, .dead, .dead, .dead, .dead, .dead, .dead, .dead, .dead, .dead, .dead, .dead, .dead, .dead, .dead, .dead, .dead, .dead, .dead, .dead, .dead, .dead, .dead, .dead, .dead])],[(ah b),(oE b)]⟩) (by kernel_rfl) (by kernel_rfl) ?_
  refine EL.seq ?_
  refine EL.aJ (by kernel_rfl) ?_
  refine EL.exit ?_
  refine tX ?_
  refine tX ?_
  refine iH ?_
  refine ⟨.inl rfl,⟨[],[(ah b),(oE b)]⟩,norm_le (live:=[]) (src:=[uf 0,uf 1]) (es:=[]) (by kernel_rfl) trivial,by kernel_rfl, ?_⟩
  focus (rfl)
 ·skip
  refine iN ?_
  refine tN ?_
  refine EL.aq ?_
  refine OW.run 1 (x':=⟨(En b),[(ah b),(dQ b)]⟩) (by kernel_rfl) ?_
  refine OW.fn (ar:=[.v (.int .u16 (dtI (b.toNat:Int)))]) (x':=⟨(19,VI (synI (dtI (b.toNat:Int))))::(En b),[(ah b),(dQ b)]⟩) (by kernel_rfl) (by kernel_rfl) tx (Em (dtI (b.toNat:Int)) (by first|exact hw|exact dB _ _ _|exact dY _)) (by kernel_rfl) (by kernel_rfl) ?_
  refine OW.last 1 [2,5] (x':=⟨[(5,VI (synI (dtI (b.toNat:Int)))),(2, .ref 1 1 0 0)],[(ah b),(dQ b)]⟩) (by kernel_rfl) (by kernel_rfl) ?_
  refine EL.seq ?_
  refine EL.aq ?_
  refine OW.last 1 [2,5,6] (x':=⟨(vD b),[(ah b),(dQ b)]⟩) (by kernel_rfl) (by kernel_rfl) ?_
  refine EL.block ?_
  refine EL.tb 5 ?_
  refine JU.step ?_
  refine EL.seq ?_
  refine EL.aq ?_
  refine OW.last 2 [2,5,6,21] (x':=⟨(21, .v (.bool true))::(vD b),[(ah b),(dQ b)]⟩) (by kernel_rfl) (by kernel_rfl) ?_
  refine EL.aH (by kernel_rfl) ?_
  refine EL.skip ?_
  refine tN ?_
  refine EL.seq ?_
  refine EL.block ?_
  refine EL.aq ?_
  refine OW.last 4 [2,5,6,27] (x':=⟨(27, .v (.bool ((bits .and .i64 (synI (dtI (b.toNat:Int))) 1) !=0)))::(vD b),[(ah b),(dQ b)]⟩) (by kernel_rfl) (by kernel_rfl) ?_
  cases h1:((bits .and .i64 (synI (dtI (b.toNat:Int))) 1) !=0)
  ·
   have g1:=fX h1
   refine EL.aJ (by kernel_rfl) ?_
   refine EL.skip ?_
   refine iN ?_
   refine tN ?_
   refine EL.aF ?_
   refine OW.end 3 (x':=⟨(MS b),[(ah b),(dQ b)]⟩) (by kernel_rfl) (by kernel_rfl) ?_
   refine tN ?_
   refine JU.step ?_
   refine EL.seq ?_
   refine EL.aq ?_
   refine OW.last 2 [2,5,6,21] (x':=⟨(Eo b),[(ah b),(dQ b)]⟩) (by kernel_rfl) (by kernel_rfl) ?_
   refine EL.aH (by kernel_rfl) ?_
   refine EL.skip ?_
   refine tN ?_
   refine EL.seq ?_
   refine EL.block ?_
   refine EL.aq ?_
   refine OW.last 4 [2,5,6,27] (x':=⟨(27, .v (.bool ((bits .and .i64 (synI (dtI (b.toNat:Int))) 2) !=0)))::(vE b),[(ah b),(dQ b)]⟩) (by kernel_rfl) (by kernel_rfl) ?_
   cases h17:((bits .and .i64 (synI (dtI (b.toNat:Int))) 2) !=0)
   ·
    have g17:=fX h17
    refine EL.aJ (by kernel_rfl) ?_
    refine EL.skip ?_
    refine iN ?_
    refine tN ?_
    refine EL.aF ?_
    refine OW.end 3 (x':=⟨(Ep b),[(ah b),(dQ b)]⟩) (by kernel_rfl) (by kernel_rfl) ?_
    refine tN ?_
    refine JU.step ?_
    refine EL.seq ?_
    refine EL.aq ?_
    refine OW.last 2 [2,5,6,21] (x':=⟨(vF b),[(ah b),(dQ b)]⟩) (by kernel_rfl) (by kernel_rfl) ?_
    refine EL.aH (by kernel_rfl) ?_
    refine EL.skip ?_
    refine tN ?_
    refine EL.seq ?_
    refine EL.block ?_
    refine EL.aq ?_
    refine OW.last 4 [2,5,6,27] (x':=⟨(27, .v (.bool ((bits .and .i64 (synI (dtI (b.toNat:Int))) 4) !=0)))::(m8 b),[(ah b),(dQ b)]⟩) (by kernel_rfl) (by kernel_rfl) ?_
    cases h25:((bits .and .i64 (synI (dtI (b.toNat:Int))) 4) !=0)
    ·
     have M1:=fX h25
     refine EL.aJ (by kernel_rfl) ?_
     refine EL.skip ?_
     refine iN ?_
     refine tN ?_
     refine EL.aF ?_
     refine OW.end 3 (x':=⟨(vG b),[(ah b),(dQ b)]⟩) (by kernel_rfl) (by kernel_rfl) ?_
     refine tN ?_
     refine JU.step ?_
     refine EL.seq ?_
     refine EL.aq ?_
     refine OW.last 2 [2,5,6,21] (x':=⟨(m9 b),[(ah b),(dQ b)]⟩) (by kernel_rfl) (by kernel_rfl) ?_
     refine EL.aH (by kernel_rfl) ?_
     refine EL.skip ?_
     refine tN ?_
     refine EL.seq ?_
     refine EL.block ?_
     refine EL.aq ?_
     refine OW.last 4 [2,5,6,27] (x':=⟨(27, .v (.bool ((bits .and .i64 (synI (dtI (b.toNat:Int))) 8) !=0)))::(gn b),[(ah b),(dQ b)]⟩) (by kernel_rfl) (by kernel_rfl) ?_
     cases h29:((bits .and .i64 (synI (dtI (b.toNat:Int))) 8) !=0)
     ·
      have M3:=fX h29
      refine EL.aJ (by kernel_rfl) ?_
      refine EL.skip ?_
      refine iN ?_
      refine tN ?_
      refine EL.aF ?_
      refine OW.end 3 (x':=⟨(na b),[(ah b),(dQ b)]⟩) (by kernel_rfl) (by kernel_rfl) ?_
      refine tN ?_
      refine JU.step ?_
      refine EL.seq ?_
      refine EL.aq ?_
      refine OW.last 2 [2,5,6,21] (x':=⟨(bN b),[(ah b),(dQ b)]⟩) (by kernel_rfl) (by kernel_rfl) ?_
      refine EL.aJ (by kernel_rfl) ?_
      refine EL.exit ?_
      refine tX ?_
      refine tX ?_
      refine iH ?_
      refine tN ?_
      refine EL.seq ?_
      refine EL.aq ?_
      refine OW.run 1 (x':=⟨(Er b),[(ah b),(dQ b)]⟩) (by kernel_rfl) ?_
      refine OW.fn (ar:=[.v (.int .u16 (dtI (b.toNat:Int)))]) (x':=⟨(33, .v (.bool (odW (dtI (b.toNat:Int)))))::(Er b),[(ah b),(dQ b)]⟩) (by kernel_rfl) (by kernel_rfl) ek (eT (dtI (b.toNat:Int)) (by first|exact hw|exact dB _ _ _|exact dY _)) (by kernel_rfl) (by kernel_rfl) ?_
      refine OW.last 0 [2,33] (x':=⟨[(33, .v (.bool (odW (dtI (b.toNat:Int))))),(2, .ref 1 1 0 0)],[(ah b),(dQ b)]⟩) (by kernel_rfl) (by kernel_rfl) ?_
      cases h31:(odW (dtI (b.toNat:Int)))
      ·
       refine EL.aJ (by kernel_rfl) ?_
       refine EL.skip ?_
       refine tN ?_
       refine EL.aq ?_
       refine OW.last 2 [2] (x':=⟨[(2, .ref 1 1 0 0)],[(ah b),(dQ b)]⟩) (by kernel_rfl) (by kernel_rfl) ?_
       refine EL.ret ?_
       refine ⟨.inr rfl, .v (.int .u16 (dtI (b.toNat:Int))),by kernel_rfl,aQ.of_eq ?_⟩
       focus ((simp [aR,cD,cm, *]))
      ·
       refine EL.aH (by kernel_rfl) ?_
       refine EL.aF ?_
       refine OW.end 3 (x':=⟨(35, .v (.int .u16 (bits .or .u16 (dtI (b.toNat:Int)) 1)))::(MZ b),[(ah b),some ⟨1,[[.v (.int .u16 (bits .or .u16 (dtI (b.toNat:Int)) 1))]]⟩]⟩) (by kernel_rfl) (by kernel_rfl) ?_
       refine tN ?_
       refine EL.aq ?_
       refine OW.last 2 [2] (x':=⟨[(2, .ref 1 1 0 0)],[(ah b),some ⟨1,[[.v (.int .u16 (bits .or .u16 (dtI (b.toNat:Int)) 1))]]⟩]⟩) (by kernel_rfl) (by kernel_rfl) ?_
       refine EL.ret ?_
       refine ⟨.inr rfl, .v (.int .u16 (bits .or .u16 (dtI (b.toNat:Int)) 1)),by kernel_rfl,aQ.of_eq ?_⟩
       focus ((simp [aR,cD,cm, *]))
     ·
      have M3:=fU h29
      refine EL.aH (by kernel_rfl) ?_
      refine EL.eZ ?_
      refine DW.end 5 (x':=⟨(31, .v (.int .u16 (bits .or .u16 (dtI (b.toNat:Int)) 256)))::(MX b),[(ah b),some ⟨1,[[.v (.int .u16 (bits .or .u16 (dtI (b.toNat:Int)) 256))]]⟩]⟩) (by kernel_rfl) (by kernel_rfl) ?_
      refine iN ?_
      refine tN ?_
      refine EL.aF ?_
      refine OW.end 3 (x':=⟨(6,VI 16)::(23,VI 16)::(22,VI 8)::(31, .v (.int .u16 (bits .or .u16 (dtI (b.toNat:Int)) 256)))::(MY b),[(ah b),some ⟨1,[[.v (.int .u16 (bits .or .u16 (dtI (b.toNat:Int)) 256))]]⟩]⟩) (by kernel_rfl) (by kernel_rfl) ?_
      refine tN ?_
      refine JU.step ?_
      refine EL.seq ?_
      refine EL.aq ?_
      refine OW.last 2 [2,5,6,21] (x':=⟨(bN b),[(ah b),some ⟨1,[[.v (.int .u16 (bits .or .u16 (dtI (b.toNat:Int)) 256))]]⟩]⟩) (by kernel_rfl) (by kernel_rfl) ?_
      refine EL.aJ (by kernel_rfl) ?_
      refine EL.exit ?_
      refine tX ?_
      refine tX ?_
      refine iH ?_
      refine tN ?_
      refine EL.seq ?_
      refine EL.aq ?_
      refine OW.run 1 (x':=⟨(32, .v (.int .u16 (bits .or .u16 (dtI (b.toNat:Int)) 256)))::(bN b),[(ah b),some ⟨1,[[.v (.int .u16 (bits .or .u16 (dtI (b.toNat:Int)) 256))]]⟩]⟩) (by kernel_rfl) ?_
      refine OW.fn (ar:=[.v (.int .u16 (bits .or .u16 (dtI (b.toNat:Int)) 256))]) (x':=⟨(33, .v (.bool (odW (bits .or .u16 (dtI (b.toNat:Int)) 256))))::(32, .v (.int .u16 (bits .or .u16 (dtI (b.toNat:Int)) 256)))::(bN b),[(ah b),some ⟨1,[[.v (.int .u16 (bits .or .u16 (dtI (b.toNat:Int)) 256))]]⟩]⟩) (by kernel_rfl) (by kernel_rfl) ek (eT (bits .or .u16 (dtI (b.toNat:Int)) 256) (by first|exact hw|exact dB _ _ _|exact dY _)) (by kernel_rfl) (by kernel_rfl) ?_
      refine OW.last 0 [2,33] (x':=⟨[(33, .v (.bool (odW (bits .or .u16 (dtI (b.toNat:Int)) 256)))),(2, .ref 1 1 0 0)],[(ah b),some ⟨1,[[.v (.int .u16 (bits .or .u16 (dtI (b.toNat:Int)) 256))]]⟩]⟩) (by kernel_rfl) (by kernel_rfl) ?_
      cases h30:(odW (bits .or .u16 (dtI (b.toNat:Int)) 256))
      ·
       refine EL.aJ (by kernel_rfl) ?_
       refine EL.skip ?_
       refine tN ?_
       refine EL.aq ?_
       refine OW.last 2 [2] (x':=⟨[(2, .ref 1 1 0 0)],[(ah b),some ⟨1,[[.v (.int .u16 (bits .or .u16 (dtI (b.toNat:Int)) 256))]]⟩]⟩) (by kernel_rfl) (by kernel_rfl) ?_
       refine EL.ret ?_
       refine ⟨.inr rfl, .v (.int .u16 (bits .or .u16 (dtI (b.toNat:Int)) 256)),by kernel_rfl,aQ.of_eq ?_⟩
       focus ((simp [aR,cD,cm, *]))
      ·
       refine EL.aH (by kernel_rfl) ?_
       refine EL.aF ?_
       refine OW.end 3 (x':=⟨[(35, .v (.int .u16 (bits .or .u16 (bits .or .u16 (dtI (b.toNat:Int)) 256) 1))),(34, .v (.int .u16 (bits .or .u16 (dtI (b.toNat:Int)) 256))),(33, .v (.bool true)),(2, .ref 1 1 0 0)],[(ah b),some ⟨1,[[.v (.int .u16 (bits .or .u16 (bits .or .u16 (dtI (b.toNat:Int)) 256) 1))]]⟩]⟩) (by kernel_rfl) (by kernel_rfl) ?_
       refine tN ?_
       refine EL.aq ?_
       refine OW.last 2 [2] (x':=⟨[(2, .ref 1 1 0 0)],[(ah b),some ⟨1,[[.v (.int .u16 (bits .or .u16 (bits .or .u16 (dtI (b.toNat:Int)) 256) 1))]]⟩]⟩) (by kernel_rfl) (by kernel_rfl) ?_
       refine EL.ret ?_
       refine ⟨.inr rfl, .v (.int .u16 (bits .or .u16 (bits .or .u16 (dtI (b.toNat:Int)) 256) 1)),by kernel_rfl,aQ.of_eq ?_⟩
       focus ((simp [aR,cD,cm, *]))
    ·
     have M1:=fU h25
     refine EL.aH (by kernel_rfl) ?_
     refine EL.eZ ?_
     refine DW.end 5 (x':=⟨(31, .v (.int .u16 (bits .or .u16 (dtI (b.toNat:Int)) 16)))::(MV b),[(ah b),some ⟨1,[[.v (.int .u16 (bits .or .u16 (dtI (b.toNat:Int)) 16))]]⟩]⟩) (by kernel_rfl) (by kernel_rfl) ?_
     refine iN ?_
     refine tN ?_
     refine EL.aF ?_
     refine OW.end 3 (x':=⟨(6,VI 8)::(23,VI 8)::(22,VI 4)::(31, .v (.int .u16 (bits .or .u16 (dtI (b.toNat:Int)) 16)))::(MW b),[(ah b),some ⟨1,[[.v (.int .u16 (bits .or .u16 (dtI (b.toNat:Int)) 16))]]⟩]⟩) (by kernel_rfl) (by kernel_rfl) ?_
     refine tN ?_
     refine JU.step ?_
     refine EL.seq ?_
     refine EL.aq ?_
     refine OW.last 2 [2,5,6,21] (x':=⟨(m9 b),[(ah b),some ⟨1,[[.v (.int .u16 (bits .or .u16 (dtI (b.toNat:Int)) 16))]]⟩]⟩) (by kernel_rfl) (by kernel_rfl) ?_
     refine EL.aH (by kernel_rfl) ?_
     refine EL.skip ?_
     refine tN ?_
     refine EL.seq ?_
     refine EL.block ?_
     refine EL.aq ?_
     refine OW.last 4 [2,5,6,27] (x':=⟨(27, .v (.bool ((bits .and .i64 (synI (dtI (b.toNat:Int))) 8) !=0)))::(gn b),[(ah b),some ⟨1,[[.v (.int .u16 (bits .or .u16 (dtI (b.toNat:Int)) 16))]]⟩]⟩) (by kernel_rfl) (by kernel_rfl) ?_
     cases h26:((bits .and .i64 (synI (dtI (b.toNat:Int))) 8) !=0)
     ·
      have M4:=fX h26
      refine EL.aJ (by kernel_rfl) ?_
      refine EL.skip ?_
      refine iN ?_
      refine tN ?_
      refine EL.aF ?_
      refine OW.end 3 (x':=⟨(na b),[(ah b),some ⟨1,[[.v (.int .u16 (bits .or .u16 (dtI (b.toNat:Int)) 16))]]⟩]⟩) (by kernel_rfl) (by kernel_rfl) ?_
      refine tN ?_
      refine JU.step ?_
      refine EL.seq ?_
      refine EL.aq ?_
      refine OW.last 2 [2,5,6,21] (x':=⟨(bN b),[(ah b),some ⟨1,[[.v (.int .u16 (bits .or .u16 (dtI (b.toNat:Int)) 16))]]⟩]⟩) (by kernel_rfl) (by kernel_rfl) ?_
      refine EL.aJ (by kernel_rfl) ?_
      refine EL.exit ?_
      refine tX ?_
      refine tX ?_
      refine iH ?_
      refine tN ?_
      refine EL.seq ?_
      refine EL.aq ?_
      refine OW.run 1 (x':=⟨(32, .v (.int .u16 (bits .or .u16 (dtI (b.toNat:Int)) 16)))::(bN b),[(ah b),some ⟨1,[[.v (.int .u16 (bits .or .u16 (dtI (b.toNat:Int)) 16))]]⟩]⟩) (by kernel_rfl) ?_
      refine OW.fn (ar:=[.v (.int .u16 (bits .or .u16 (dtI (b.toNat:Int)) 16))]) (x':=⟨(33, .v (.bool (odW (bits .or .u16 (dtI (b.toNat:Int)) 16))))::(32, .v (.int .u16 (bits .or .u16 (dtI (b.toNat:Int)) 16)))::(bN b),[(ah b),some ⟨1,[[.v (.int .u16 (bits .or .u16 (dtI (b.toNat:Int)) 16))]]⟩]⟩) (by kernel_rfl) (by kernel_rfl) ek (eT (bits .or .u16 (dtI (b.toNat:Int)) 16) (by first|exact hw|exact dB _ _ _|exact dY _)) (by kernel_rfl) (by kernel_rfl) ?_
      refine OW.last 0 [2,33] (x':=⟨[(33, .v (.bool (odW (bits .or .u16 (dtI (b.toNat:Int)) 16)))),(2, .ref 1 1 0 0)],[(ah b),some ⟨1,[[.v (.int .u16 (bits .or .u16 (dtI (b.toNat:Int)) 16))]]⟩]⟩) (by kernel_rfl) (by kernel_rfl) ?_
      cases h28:(odW (bits .or .u16 (dtI (b.toNat:Int)) 16))
      ·
       refine EL.aJ (by kernel_rfl) ?_
       refine EL.skip ?_
       refine tN ?_
       refine EL.aq ?_
       refine OW.last 2 [2] (x':=⟨[(2, .ref 1 1 0 0)],[(ah b),some ⟨1,[[.v (.int .u16 (bits .or .u16 (dtI (b.toNat:Int)) 16))]]⟩]⟩) (by kernel_rfl) (by kernel_rfl) ?_
       refine EL.ret ?_
       refine ⟨.inr rfl, .v (.int .u16 (bits .or .u16 (dtI (b.toNat:Int)) 16)),by kernel_rfl,aQ.of_eq ?_⟩
       focus ((simp [aR,cD,cm, *]))
      ·
       refine EL.aH (by kernel_rfl) ?_
       refine EL.aF ?_
       refine OW.end 3 (x':=⟨[(35, .v (.int .u16 (bits .or .u16 (bits .or .u16 (dtI (b.toNat:Int)) 16) 1))),(34, .v (.int .u16 (bits .or .u16 (dtI (b.toNat:Int)) 16))),(33, .v (.bool true)),(2, .ref 1 1 0 0)],[(ah b),some ⟨1,[[.v (.int .u16 (bits .or .u16 (bits .or .u16 (dtI (b.toNat:Int)) 16) 1))]]⟩]⟩) (by kernel_rfl) (by kernel_rfl) ?_
       refine tN ?_
       refine EL.aq ?_
       refine OW.last 2 [2] (x':=⟨[(2, .ref 1 1 0 0)],[(ah b),some ⟨1,[[.v (.int .u16 (bits .or .u16 (bits .or .u16 (dtI (b.toNat:Int)) 16) 1))]]⟩]⟩) (by kernel_rfl) (by kernel_rfl) ?_
       refine EL.ret ?_
       refine ⟨.inr rfl, .v (.int .u16 (bits .or .u16 (bits .or .u16 (dtI (b.toNat:Int)) 16) 1)),by kernel_rfl,aQ.of_eq ?_⟩
       focus ((simp [aR,cD,cm, *]))
     ·
      have M4:=fU h26
      refine EL.aH (by kernel_rfl) ?_
      refine EL.eZ ?_
      refine DW.end 5 (x':=⟨(31, .v (.int .u16 (bits .or .u16 (bits .or .u16 (dtI (b.toNat:Int)) 16) 256)))::(30, .v (.int .u16 256))::(29,VI 8)::(28, .v (.int .u16 (bits .or .u16 (dtI (b.toNat:Int)) 16)))::(27, .v (.bool true))::(gn b),[(ah b),some ⟨1,[[.v (.int .u16 (bits .or .u16 (bits .or .u16 (dtI (b.toNat:Int)) 16) 256))]]⟩]⟩) (by kernel_rfl) (by kernel_rfl) ?_
      refine iN ?_
      refine tN ?_
      refine EL.aF ?_
      refine OW.end 3 (x':=⟨(6,VI 16)::(23,VI 16)::(22,VI 8)::(31, .v (.int .u16 (bits .or .u16 (bits .or .u16 (dtI (b.toNat:Int)) 16) 256)))::(30, .v (.int .u16 256))::(29,VI 8)::(28, .v (.int .u16 (bits .or .u16 (dtI (b.toNat:Int)) 16)))::(iv b),[(ah b),some ⟨1,[[.v (.int .u16 (bits .or .u16 (bits .or .u16 (dtI (b.toNat:Int)) 16) 256))]]⟩]⟩) (by kernel_rfl) (by kernel_rfl) ?_
      refine tN ?_
      refine JU.step ?_
      refine EL.seq ?_
      refine EL.aq ?_
      refine OW.last 2 [2,5,6,21] (x':=⟨(bN b),[(ah b),some ⟨1,[[.v (.int .u16 (bits .or .u16 (bits .or .u16 (dtI (b.toNat:Int)) 16) 256))]]⟩]⟩) (by kernel_rfl) (by kernel_rfl) ?_
      refine EL.aJ (by kernel_rfl) ?_
      refine EL.exit ?_
      refine tX ?_
      refine tX ?_
      refine iH ?_
      refine tN ?_
      refine EL.seq ?_
      refine EL.aq ?_
      refine OW.run 1 (x':=⟨(32, .v (.int .u16 (bits .or .u16 (bits .or .u16 (dtI (b.toNat:Int)) 16) 256)))::(bN b),[(ah b),some ⟨1,[[.v (.int .u16 (bits .or .u16 (bits .or .u16 (dtI (b.toNat:Int)) 16) 256))]]⟩]⟩) (by kernel_rfl) ?_
      refine OW.fn (ar:=[.v (.int .u16 (bits .or .u16 (bits .or .u16 (dtI (b.toNat:Int)) 16) 256))]) (x':=⟨(33, .v (.bool (odW (bits .or .u16 (bits .or .u16 (dtI (b.toNat:Int)) 16) 256))))::(32, .v (.int .u16 (bits .or .u16 (bits .or .u16 (dtI (b.toNat:Int)) 16) 256)))::(bN b),[(ah b),some ⟨1,[[.v (.int .u16 (bits .or .u16 (bits .or .u16 (dtI (b.toNat:Int)) 16) 256))]]⟩]⟩) (by kernel_rfl) (by kernel_rfl) ek (eT (bits .or .u16 (bits .or .u16 (dtI (b.toNat:Int)) 16) 256) (by first|exact hw|exact dB _ _ _|exact dY _)) (by kernel_rfl) (by kernel_rfl) ?_
      refine OW.last 0 [2,33] (x':=⟨[(33, .v (.bool (odW (bits .or .u16 (bits .or .u16 (dtI (b.toNat:Int)) 16) 256)))),(2, .ref 1 1 0 0)],[(ah b),some ⟨1,[[.v (.int .u16 (bits .or .u16 (bits .or .u16 (dtI (b.toNat:Int)) 16) 256))]]⟩]⟩) (by kernel_rfl) (by kernel_rfl) ?_
      cases h27:(odW (bits .or .u16 (bits .or .u16 (dtI (b.toNat:Int)) 16) 256))
      ·
       refine EL.aJ (by kernel_rfl) ?_
       refine EL.skip ?_
       refine tN ?_
       refine EL.aq ?_
       refine OW.last 2 [2] (x':=⟨[(2, .ref 1 1 0 0)],[(ah b),some ⟨1,[[.v (.int .u16 (bits .or .u16 (bits .or .u16 (dtI (b.toNat:Int)) 16) 256))]]⟩]⟩) (by kernel_rfl) (by kernel_rfl) ?_
       refine EL.ret ?_
       refine ⟨.inr rfl, .v (.int .u16 (bits .or .u16 (bits .or .u16 (dtI (b.toNat:Int)) 16) 256)),by kernel_rfl,aQ.of_eq ?_⟩
       focus ((simp [aR,cD,cm, *]))
      ·
       refine EL.aH (by kernel_rfl) ?_
       refine EL.aF ?_
       refine OW.end 3 (x':=⟨[(35, .v (.int .u16 (bits .or .u16 (bits .or .u16 (bits .or .u16 (dtI (b.toNat:Int)) 16) 256) 1))),(34, .v (.int .u16 (bits .or .u16 (bits .or .u16 (dtI (b.toNat:Int)) 16) 256))),(33, .v (.bool true)),(2, .ref 1 1 0 0)],[(ah b),some ⟨1,[[.v (.int .u16 (bits .or .u16 (bits .or .u16 (bits .or .u16 (dtI (b.toNat:Int)) 16) 256) 1))]]⟩]⟩) (by kernel_rfl) (by kernel_rfl) ?_
       refine tN ?_
       refine EL.aq ?_
       refine OW.last 2 [2] (x':=⟨[(2, .ref 1 1 0 0)],[(ah b),some ⟨1,[[.v (.int .u16 (bits .or .u16 (bits .or .u16 (bits .or .u16 (dtI (b.toNat:Int)) 16) 256) 1))]]⟩]⟩) (by kernel_rfl) (by kernel_rfl) ?_
       refine EL.ret ?_
       refine ⟨.inr rfl, .v (.int .u16 (bits .or .u16 (bits .or .u16 (bits .or .u16 (dtI (b.toNat:Int)) 16) 256) 1)),by kernel_rfl,aQ.of_eq ?_⟩
       focus ((simp [aR,cD,cm, *]))
   ·
    have g17:=fU h17
    refine EL.aH (by kernel_rfl) ?_
    refine EL.eZ ?_
    refine DW.end 5 (x':=⟨(31, .v (.int .u16 (bits .or .u16 (dtI (b.toNat:Int)) 4)))::(MT b),[(ah b),some ⟨1,[[.v (.int .u16 (bits .or .u16 (dtI (b.toNat:Int)) 4))]]⟩]⟩) (by kernel_rfl) (by kernel_rfl) ?_
    refine iN ?_
    refine tN ?_
    refine EL.aF ?_
    refine OW.end 3 (x':=⟨(6,VI 4)::(23,VI 4)::(22,VI 2)::(31, .v (.int .u16 (bits .or .u16 (dtI (b.toNat:Int)) 4)))::(MU b),[(ah b),some ⟨1,[[.v (.int .u16 (bits .or .u16 (dtI (b.toNat:Int)) 4))]]⟩]⟩) (by kernel_rfl) (by kernel_rfl) ?_
    refine tN ?_
    refine JU.step ?_
    refine EL.seq ?_
    refine EL.aq ?_
    refine OW.last 2 [2,5,6,21] (x':=⟨(vF b),[(ah b),some ⟨1,[[.v (.int .u16 (bits .or .u16 (dtI (b.toNat:Int)) 4))]]⟩]⟩) (by kernel_rfl) (by kernel_rfl) ?_
    refine EL.aH (by kernel_rfl) ?_
    refine EL.skip ?_
    refine tN ?_
    refine EL.seq ?_
    refine EL.block ?_
    refine EL.aq ?_
    refine OW.last 4 [2,5,6,27] (x':=⟨(27, .v (.bool ((bits .and .i64 (synI (dtI (b.toNat:Int))) 4) !=0)))::(m8 b),[(ah b),some ⟨1,[[.v (.int .u16 (bits .or .u16 (dtI (b.toNat:Int)) 4))]]⟩]⟩) (by kernel_rfl) (by kernel_rfl) ?_
    cases h18:((bits .and .i64 (synI (dtI (b.toNat:Int))) 4) !=0)
    ·
     have g18:=fX h18
     refine EL.aJ (by kernel_rfl) ?_
     refine EL.skip ?_
     refine iN ?_
     refine tN ?_
     refine EL.aF ?_
     refine OW.end 3 (x':=⟨(vG b),[(ah b),some ⟨1,[[.v (.int .u16 (bits .or .u16 (dtI (b.toNat:Int)) 4))]]⟩]⟩) (by kernel_rfl) (by kernel_rfl) ?_
     refine tN ?_
     refine JU.step ?_
     refine EL.seq ?_
     refine EL.aq ?_
     refine OW.last 2 [2,5,6,21] (x':=⟨(m9 b),[(ah b),some ⟨1,[[.v (.int .u16 (bits .or .u16 (dtI (b.toNat:Int)) 4))]]⟩]⟩) (by kernel_rfl) (by kernel_rfl) ?_
     refine EL.aH (by kernel_rfl) ?_
     refine EL.skip ?_
     refine tN ?_
     refine EL.seq ?_
     refine EL.block ?_
     refine EL.aq ?_
     refine OW.last 4 [2,5,6,27] (x':=⟨(27, .v (.bool ((bits .and .i64 (synI (dtI (b.toNat:Int))) 8) !=0)))::(gn b),[(ah b),some ⟨1,[[.v (.int .u16 (bits .or .u16 (dtI (b.toNat:Int)) 4))]]⟩]⟩) (by kernel_rfl) (by kernel_rfl) ?_
     cases h22:((bits .and .i64 (synI (dtI (b.toNat:Int))) 8) !=0)
     ·
      have g22:=fX h22
      refine EL.aJ (by kernel_rfl) ?_
      refine EL.skip ?_
      refine iN ?_
      refine tN ?_
      refine EL.aF ?_
      refine OW.end 3 (x':=⟨(na b),[(ah b),some ⟨1,[[.v (.int .u16 (bits .or .u16 (dtI (b.toNat:Int)) 4))]]⟩]⟩) (by kernel_rfl) (by kernel_rfl) ?_
      refine tN ?_
      refine JU.step ?_
      refine EL.seq ?_
      refine EL.aq ?_
      refine OW.last 2 [2,5,6,21] (x':=⟨(bN b),[(ah b),some ⟨1,[[.v (.int .u16 (bits .or .u16 (dtI (b.toNat:Int)) 4))]]⟩]⟩) (by kernel_rfl) (by kernel_rfl) ?_
      refine EL.aJ (by kernel_rfl) ?_
      refine EL.exit ?_
      refine tX ?_
      refine tX ?_
      refine iH ?_
      refine tN ?_
      refine EL.seq ?_
      refine EL.aq ?_
      refine OW.run 1 (x':=⟨(32, .v (.int .u16 (bits .or .u16 (dtI (b.toNat:Int)) 4)))::(bN b),[(ah b),some ⟨1,[[.v (.int .u16 (bits .or .u16 (dtI (b.toNat:Int)) 4))]]⟩]⟩) (by kernel_rfl) ?_
      refine OW.fn (ar:=[.v (.int .u16 (bits .or .u16 (dtI (b.toNat:Int)) 4))]) (x':=⟨(33, .v (.bool (odW (bits .or .u16 (dtI (b.toNat:Int)) 4))))::(32, .v (.int .u16 (bits .or .u16 (dtI (b.toNat:Int)) 4)))::(bN b),[(ah b),some ⟨1,[[.v (.int .u16 (bits .or .u16 (dtI (b.toNat:Int)) 4))]]⟩]⟩) (by kernel_rfl) (by kernel_rfl) ek (eT (bits .or .u16 (dtI (b.toNat:Int)) 4) (by first|exact hw|exact dB _ _ _|exact dY _)) (by kernel_rfl) (by kernel_rfl) ?_
      refine OW.last 0 [2,33] (x':=⟨[(33, .v (.bool (odW (bits .or .u16 (dtI (b.toNat:Int)) 4)))),(2, .ref 1 1 0 0)],[(ah b),some ⟨1,[[.v (.int .u16 (bits .or .u16 (dtI (b.toNat:Int)) 4))]]⟩]⟩) (by kernel_rfl) (by kernel_rfl) ?_
      cases h24:(odW (bits .or .u16 (dtI (b.toNat:Int)) 4))
      ·
       refine EL.aJ (by kernel_rfl) ?_
       refine EL.skip ?_
       refine tN ?_
       refine EL.aq ?_
       refine OW.last 2 [2] (x':=⟨[(2, .ref 1 1 0 0)],[(ah b),some ⟨1,[[.v (.int .u16 (bits .or .u16 (dtI (b.toNat:Int)) 4))]]⟩]⟩) (by kernel_rfl) (by kernel_rfl) ?_
       refine EL.ret ?_
       refine ⟨.inr rfl, .v (.int .u16 (bits .or .u16 (dtI (b.toNat:Int)) 4)),by kernel_rfl,aQ.of_eq ?_⟩
       focus ((simp [aR,cD,cm, *]))
      ·
       refine EL.aH (by kernel_rfl) ?_
       refine EL.aF ?_
       refine OW.end 3 (x':=⟨[(35, .v (.int .u16 (bits .or .u16 (bits .or .u16 (dtI (b.toNat:Int)) 4) 1))),(34, .v (.int .u16 (bits .or .u16 (dtI (b.toNat:Int)) 4))),(33, .v (.bool true)),(2, .ref 1 1 0 0)],[(ah b),some ⟨1,[[.v (.int .u16 (bits .or .u16 (bits .or .u16 (dtI (b.toNat:Int)) 4) 1))]]⟩]⟩) (by kernel_rfl) (by kernel_rfl) ?_
       refine tN ?_
       refine EL.aq ?_
       refine OW.last 2 [2] (x':=⟨[(2, .ref 1 1 0 0)],[(ah b),some ⟨1,[[.v (.int .u16 (bits .or .u16 (bits .or .u16 (dtI (b.toNat:Int)) 4) 1))]]⟩]⟩) (by kernel_rfl) (by kernel_rfl) ?_
       refine EL.ret ?_
       refine ⟨.inr rfl, .v (.int .u16 (bits .or .u16 (bits .or .u16 (dtI (b.toNat:Int)) 4) 1)),by kernel_rfl,aQ.of_eq ?_⟩
       focus ((simp [aR,cD,cm, *]))
     ·
      have g22:=fU h22
      refine EL.aH (by kernel_rfl) ?_
      refine EL.eZ ?_
      refine DW.end 5 (x':=⟨(31, .v (.int .u16 (bits .or .u16 (bits .or .u16 (dtI (b.toNat:Int)) 4) 256)))::(30, .v (.int .u16 256))::(29,VI 8)::(28, .v (.int .u16 (bits .or .u16 (dtI (b.toNat:Int)) 4)))::(27, .v (.bool true))::(gn b),[(ah b),some ⟨1,[[.v (.int .u16 (bits .or .u16 (bits .or .u16 (dtI (b.toNat:Int)) 4) 256))]]⟩]⟩) (by kernel_rfl) (by kernel_rfl) ?_
      refine iN ?_
      refine tN ?_
      refine EL.aF ?_
      refine OW.end 3 (x':=⟨(6,VI 16)::(23,VI 16)::(22,VI 8)::(31, .v (.int .u16 (bits .or .u16 (bits .or .u16 (dtI (b.toNat:Int)) 4) 256)))::(30, .v (.int .u16 256))::(29,VI 8)::(28, .v (.int .u16 (bits .or .u16 (dtI (b.toNat:Int)) 4)))::(iv b),[(ah b),some ⟨1,[[.v (.int .u16 (bits .or .u16 (bits .or .u16 (dtI (b.toNat:Int)) 4) 256))]]⟩]⟩) (by kernel_rfl) (by kernel_rfl) ?_
      refine tN ?_
      refine JU.step ?_
      refine EL.seq ?_
      refine EL.aq ?_
      refine OW.last 2 [2,5,6,21] (x':=⟨(bN b),[(ah b),some ⟨1,[[.v (.int .u16 (bits .or .u16 (bits .or .u16 (dtI (b.toNat:Int)) 4) 256))]]⟩]⟩) (by kernel_rfl) (by kernel_rfl) ?_
      refine EL.aJ (by kernel_rfl) ?_
      refine EL.exit ?_
      refine tX ?_
      refine tX ?_
      refine iH ?_
      refine tN ?_
      refine EL.seq ?_
      refine EL.aq ?_
      refine OW.run 1 (x':=⟨(32, .v (.int .u16 (bits .or .u16 (bits .or .u16 (dtI (b.toNat:Int)) 4) 256)))::(bN b),[(ah b),some ⟨1,[[.v (.int .u16 (bits .or .u16 (bits .or .u16 (dtI (b.toNat:Int)) 4) 256))]]⟩]⟩) (by kernel_rfl) ?_
      refine OW.fn (ar:=[.v (.int .u16 (bits .or .u16 (bits .or .u16 (dtI (b.toNat:Int)) 4) 256))]) (x':=⟨(33, .v (.bool (odW (bits .or .u16 (bits .or .u16 (dtI (b.toNat:Int)) 4) 256))))::(32, .v (.int .u16 (bits .or .u16 (bits .or .u16 (dtI (b.toNat:Int)) 4) 256)))::(bN b),[(ah b),some ⟨1,[[.v (.int .u16 (bits .or .u16 (bits .or .u16 (dtI (b.toNat:Int)) 4) 256))]]⟩]⟩) (by kernel_rfl) (by kernel_rfl) ek (eT (bits .or .u16 (bits .or .u16 (dtI (b.toNat:Int)) 4) 256) (by first|exact hw|exact dB _ _ _|exact dY _)) (by kernel_rfl) (by kernel_rfl) ?_
      refine OW.last 0 [2,33] (x':=⟨[(33, .v (.bool (odW (bits .or .u16 (bits .or .u16 (dtI (b.toNat:Int)) 4) 256)))),(2, .ref 1 1 0 0)],[(ah b),some ⟨1,[[.v (.int .u16 (bits .or .u16 (bits .or .u16 (dtI (b.toNat:Int)) 4) 256))]]⟩]⟩) (by kernel_rfl) (by kernel_rfl) ?_
      cases h23:(odW (bits .or .u16 (bits .or .u16 (dtI (b.toNat:Int)) 4) 256))
      ·
       refine EL.aJ (by kernel_rfl) ?_
       refine EL.skip ?_
       refine tN ?_
       refine EL.aq ?_
       refine OW.last 2 [2] (x':=⟨[(2, .ref 1 1 0 0)],[(ah b),some ⟨1,[[.v (.int .u16 (bits .or .u16 (bits .or .u16 (dtI (b.toNat:Int)) 4) 256))]]⟩]⟩) (by kernel_rfl) (by kernel_rfl) ?_
       refine EL.ret ?_
       refine ⟨.inr rfl, .v (.int .u16 (bits .or .u16 (bits .or .u16 (dtI (b.toNat:Int)) 4) 256)),by kernel_rfl,aQ.of_eq ?_⟩
       focus ((simp [aR,cD,cm, *]))
      ·
       refine EL.aH (by kernel_rfl) ?_
       refine EL.aF ?_
       refine OW.end 3 (x':=⟨[(35, .v (.int .u16 (bits .or .u16 (bits .or .u16 (bits .or .u16 (dtI (b.toNat:Int)) 4) 256) 1))),(34, .v (.int .u16 (bits .or .u16 (bits .or .u16 (dtI (b.toNat:Int)) 4) 256))),(33, .v (.bool true)),(2, .ref 1 1 0 0)],[(ah b),some ⟨1,[[.v (.int .u16 (bits .or .u16 (bits .or .u16 (bits .or .u16 (dtI (b.toNat:Int)) 4) 256) 1))]]⟩]⟩) (by kernel_rfl) (by kernel_rfl) ?_
       refine tN ?_
       refine EL.aq ?_
       refine OW.last 2 [2] (x':=⟨[(2, .ref 1 1 0 0)],[(ah b),some ⟨1,[[.v (.int .u16 (bits .or .u16 (bits .or .u16 (bits .or .u16 (dtI (b.toNat:Int)) 4) 256) 1))]]⟩]⟩) (by kernel_rfl) (by kernel_rfl) ?_
       refine EL.ret ?_
       refine ⟨.inr rfl, .v (.int .u16 (bits .or .u16 (bits .or .u16 (bits .or .u16 (dtI (b.toNat:Int)) 4) 256) 1)),by kernel_rfl,aQ.of_eq ?_⟩
       focus ((simp [aR,cD,cm, *]))
    ·
     have g18:=fU h18
     refine EL.aH (by kernel_rfl) ?_
     refine EL.eZ ?_
     refine DW.end 5 (x':=⟨(31, .v (.int .u16 (bits .or .u16 (bits .or .u16 (dtI (b.toNat:Int)) 4) 16)))::(30, .v (.int .u16 16))::(29,VI 4)::(28, .v (.int .u16 (bits .or .u16 (dtI (b.toNat:Int)) 4)))::(27, .v (.bool true))::(m8 b),[(ah b),some ⟨1,[[.v (.int .u16 (bits .or .u16 (bits .or .u16 (dtI (b.toNat:Int)) 4) 16))]]⟩]⟩) (by kernel_rfl) (by kernel_rfl) ?_
     refine iN ?_
     refine tN ?_
     refine EL.aF ?_
     refine OW.end 3 (x':=⟨(6,VI 8)::(23,VI 8)::(22,VI 4)::(31, .v (.int .u16 (bits .or .u16 (bits .or .u16 (dtI (b.toNat:Int)) 4) 16)))::(30, .v (.int .u16 16))::(29,VI 4)::(28, .v (.int .u16 (bits .or .u16 (dtI (b.toNat:Int)) 4)))::(iv b),[(ah b),some ⟨1,[[.v (.int .u16 (bits .or .u16 (bits .or .u16 (dtI (b.toNat:Int)) 4) 16))]]⟩]⟩) (by kernel_rfl) (by kernel_rfl) ?_
     refine tN ?_
     refine JU.step ?_
     refine EL.seq ?_
     refine EL.aq ?_
     refine OW.last 2 [2,5,6,21] (x':=⟨(m9 b),[(ah b),some ⟨1,[[.v (.int .u16 (bits .or .u16 (bits .or .u16 (dtI (b.toNat:Int)) 4) 16))]]⟩]⟩) (by kernel_rfl) (by kernel_rfl) ?_
     refine EL.aH (by kernel_rfl) ?_
     refine EL.skip ?_
     refine tN ?_
     refine EL.seq ?_
     refine EL.block ?_
     refine EL.aq ?_
     refine OW.last 4 [2,5,6,27] (x':=⟨(27, .v (.bool ((bits .and .i64 (synI (dtI (b.toNat:Int))) 8) !=0)))::(gn b),[(ah b),some ⟨1,[[.v (.int .u16 (bits .or .u16 (bits .or .u16 (dtI (b.toNat:Int)) 4) 16))]]⟩]⟩) (by kernel_rfl) (by kernel_rfl) ?_
     cases h19:((bits .and .i64 (synI (dtI (b.toNat:Int))) 8) !=0)
     ·
      have g19:=fX h19
      refine EL.aJ (by kernel_rfl) ?_
      refine EL.skip ?_
      refine iN ?_
      refine tN ?_
      refine EL.aF ?_
      refine OW.end 3 (x':=⟨(na b),[(ah b),some ⟨1,[[.v (.int .u16 (bits .or .u16 (bits .or .u16 (dtI (b.toNat:Int)) 4) 16))]]⟩]⟩) (by kernel_rfl) (by kernel_rfl) ?_
      refine tN ?_
      refine JU.step ?_
      refine EL.seq ?_
      refine EL.aq ?_
      refine OW.last 2 [2,5,6,21] (x':=⟨(bN b),[(ah b),some ⟨1,[[.v (.int .u16 (bits .or .u16 (bits .or .u16 (dtI (b.toNat:Int)) 4) 16))]]⟩]⟩) (by kernel_rfl) (by kernel_rfl) ?_
      refine EL.aJ (by kernel_rfl) ?_
      refine EL.exit ?_
      refine tX ?_
      refine tX ?_
      refine iH ?_
      refine tN ?_
      refine EL.seq ?_
      refine EL.aq ?_
      refine OW.run 1 (x':=⟨(32, .v (.int .u16 (bits .or .u16 (bits .or .u16 (dtI (b.toNat:Int)) 4) 16)))::(bN b),[(ah b),some ⟨1,[[.v (.int .u16 (bits .or .u16 (bits .or .u16 (dtI (b.toNat:Int)) 4) 16))]]⟩]⟩) (by kernel_rfl) ?_
      refine OW.fn (ar:=[.v (.int .u16 (bits .or .u16 (bits .or .u16 (dtI (b.toNat:Int)) 4) 16))]) (x':=⟨(33, .v (.bool (odW (bits .or .u16 (bits .or .u16 (dtI (b.toNat:Int)) 4) 16))))::(32, .v (.int .u16 (bits .or .u16 (bits .or .u16 (dtI (b.toNat:Int)) 4) 16)))::(bN b),[(ah b),some ⟨1,[[.v (.int .u16 (bits .or .u16 (bits .or .u16 (dtI (b.toNat:Int)) 4) 16))]]⟩]⟩) (by kernel_rfl) (by kernel_rfl) ek (eT (bits .or .u16 (bits .or .u16 (dtI (b.toNat:Int)) 4) 16) (by first|exact hw|exact dB _ _ _|exact dY _)) (by kernel_rfl) (by kernel_rfl) ?_
      refine OW.last 0 [2,33] (x':=⟨[(33, .v (.bool (odW (bits .or .u16 (bits .or .u16 (dtI (b.toNat:Int)) 4) 16)))),(2, .ref 1 1 0 0)],[(ah b),some ⟨1,[[.v (.int .u16 (bits .or .u16 (bits .or .u16 (dtI (b.toNat:Int)) 4) 16))]]⟩]⟩) (by kernel_rfl) (by kernel_rfl) ?_
      cases h21:(odW (bits .or .u16 (bits .or .u16 (dtI (b.toNat:Int)) 4) 16))
      ·
       refine EL.aJ (by kernel_rfl) ?_
       refine EL.skip ?_
       refine tN ?_
       refine EL.aq ?_
       refine OW.last 2 [2] (x':=⟨[(2, .ref 1 1 0 0)],[(ah b),some ⟨1,[[.v (.int .u16 (bits .or .u16 (bits .or .u16 (dtI (b.toNat:Int)) 4) 16))]]⟩]⟩) (by kernel_rfl) (by kernel_rfl) ?_
       refine EL.ret ?_
       refine ⟨.inr rfl, .v (.int .u16 (bits .or .u16 (bits .or .u16 (dtI (b.toNat:Int)) 4) 16)),by kernel_rfl,aQ.of_eq ?_⟩
       focus ((simp [aR,cD,cm, *]))
      ·
       refine EL.aH (by kernel_rfl) ?_
       refine EL.aF ?_
       refine OW.end 3 (x':=⟨[(35, .v (.int .u16 (bits .or .u16 (bits .or .u16 (bits .or .u16 (dtI (b.toNat:Int)) 4) 16) 1))),(34, .v (.int .u16 (bits .or .u16 (bits .or .u16 (dtI (b.toNat:Int)) 4) 16))),(33, .v (.bool true)),(2, .ref 1 1 0 0)],[(ah b),some ⟨1,[[.v (.int .u16 (bits .or .u16 (bits .or .u16 (bits .or .u16 (dtI (b.toNat:Int)) 4) 16) 1))]]⟩]⟩) (by kernel_rfl) (by kernel_rfl) ?_
       refine tN ?_
       refine EL.aq ?_
       refine OW.last 2 [2] (x':=⟨[(2, .ref 1 1 0 0)],[(ah b),some ⟨1,[[.v (.int .u16 (bits .or .u16 (bits .or .u16 (bits .or .u16 (dtI (b.toNat:Int)) 4) 16) 1))]]⟩]⟩) (by kernel_rfl) (by kernel_rfl) ?_
       refine EL.ret ?_
       refine ⟨.inr rfl, .v (.int .u16 (bits .or .u16 (bits .or .u16 (bits .or .u16 (dtI (b.toNat:Int)) 4) 16) 1)),by kernel_rfl,aQ.of_eq ?_⟩
       focus ((simp [aR,cD,cm, *]))
     ·
      have g19:=fU h19
      refine EL.aH (by kernel_rfl) ?_
      refine EL.eZ ?_
      refine DW.end 5 (x':=⟨(31, .v (.int .u16 (bits .or .u16 (bits .or .u16 (bits .or .u16 (dtI (b.toNat:Int)) 4) 16) 256)))::(30, .v (.int .u16 256))::(29,VI 8)::(28, .v (.int .u16 (bits .or .u16 (bits .or .u16 (dtI (b.toNat:Int)) 4) 16)))::(27, .v (.bool true))::(gn b),[(ah b),some ⟨1,[[.v (.int .u16 (bits .or .u16 (bits .or .u16 (bits .or .u16 (dtI (b.toNat:Int)) 4) 16) 256))]]⟩]⟩) (by kernel_rfl) (by kernel_rfl) ?_
      refine iN ?_
      refine tN ?_
      refine EL.aF ?_
      refine OW.end 3 (x':=⟨(6,VI 16)::(23,VI 16)::(22,VI 8)::(31, .v (.int .u16 (bits .or .u16 (bits .or .u16 (bits .or .u16 (dtI (b.toNat:Int)) 4) 16) 256)))::(30, .v (.int .u16 256))::(29,VI 8)::(28, .v (.int .u16 (bits .or .u16 (bits .or .u16 (dtI (b.toNat:Int)) 4) 16)))::(iv b),[(ah b),some ⟨1,[[.v (.int .u16 (bits .or .u16 (bits .or .u16 (bits .or .u16 (dtI (b.toNat:Int)) 4) 16) 256))]]⟩]⟩) (by kernel_rfl) (by kernel_rfl) ?_
      refine tN ?_
      refine JU.step ?_
      refine EL.seq ?_
      refine EL.aq ?_
      refine OW.last 2 [2,5,6,21] (x':=⟨(bN b),[(ah b),some ⟨1,[[.v (.int .u16 (bits .or .u16 (bits .or .u16 (bits .or .u16 (dtI (b.toNat:Int)) 4) 16) 256))]]⟩]⟩) (by kernel_rfl) (by kernel_rfl) ?_
      refine EL.aJ (by kernel_rfl) ?_
      refine EL.exit ?_
      refine tX ?_
      refine tX ?_
      refine iH ?_
      refine tN ?_
      refine EL.seq ?_
      refine EL.aq ?_
      refine OW.run 1 (x':=⟨(32, .v (.int .u16 (bits .or .u16 (bits .or .u16 (bits .or .u16 (dtI (b.toNat:Int)) 4) 16) 256)))::(bN b),[(ah b),some ⟨1,[[.v (.int .u16 (bits .or .u16 (bits .or .u16 (bits .or .u16 (dtI (b.toNat:Int)) 4) 16) 256))]]⟩]⟩) (by kernel_rfl) ?_
      refine OW.fn (ar:=[.v (.int .u16 (bits .or .u16 (bits .or .u16 (bits .or .u16 (dtI (b.toNat:Int)) 4) 16) 256))]) (x':=⟨(33, .v (.bool (odW (bits .or .u16 (bits .or .u16 (bits .or .u16 (dtI (b.toNat:Int)) 4) 16) 256))))::(32, .v (.int .u16 (bits .or .u16 (bits .or .u16 (bits .or .u16 (dtI (b.toNat:Int)) 4) 16) 256)))::(bN b),[(ah b),some ⟨1,[[.v (.int .u16 (bits .or .u16 (bits .or .u16 (bits .or .u16 (dtI (b.toNat:Int)) 4) 16) 256))]]⟩]⟩) (by kernel_rfl) (by kernel_rfl) ek (eT (bits .or .u16 (bits .or .u16 (bits .or .u16 (dtI (b.toNat:Int)) 4) 16) 256) (by first|exact hw|exact dB _ _ _|exact dY _)) (by kernel_rfl) (by kernel_rfl) ?_
      refine OW.last 0 [2,33] (x':=⟨[(33, .v (.bool (odW (bits .or .u16 (bits .or .u16 (bits .or .u16 (dtI (b.toNat:Int)) 4) 16) 256)))),(2, .ref 1 1 0 0)],[(ah b),some ⟨1,[[.v (.int .u16 (bits .or .u16 (bits .or .u16 (bits .or .u16 (dtI (b.toNat:Int)) 4) 16) 256))]]⟩]⟩) (by kernel_rfl) (by kernel_rfl) ?_
      cases h20:(odW (bits .or .u16 (bits .or .u16 (bits .or .u16 (dtI (b.toNat:Int)) 4) 16) 256))
      ·
       refine EL.aJ (by kernel_rfl) ?_
       refine EL.skip ?_
       refine tN ?_
       refine EL.aq ?_
       refine OW.last 2 [2] (x':=⟨[(2, .ref 1 1 0 0)],[(ah b),some ⟨1,[[.v (.int .u16 (bits .or .u16 (bits .or .u16 (bits .or .u16 (dtI (b.toNat:Int)) 4) 16) 256))]]⟩]⟩) (by kernel_rfl) (by kernel_rfl) ?_
       refine EL.ret ?_
       refine ⟨.inr rfl, .v (.int .u16 (bits .or .u16 (bits .or .u16 (bits .or .u16 (dtI (b.toNat:Int)) 4) 16) 256)),by kernel_rfl,aQ.of_eq ?_⟩
       focus ((simp [aR,cD,cm, *]))
      ·
       refine EL.aH (by kernel_rfl) ?_
       refine EL.aF ?_
       refine OW.end 3 (x':=⟨[(35, .v (.int .u16 (bits .or .u16 (bits .or .u16 (bits .or .u16 (bits .or .u16 (dtI (b.toNat:Int)) 4) 16) 256) 1))),(34, .v (.int .u16 (bits .or .u16 (bits .or .u16 (bits .or .u16 (dtI (b.toNat:Int)) 4) 16) 256))),(33, .v (.bool true)),(2, .ref 1 1 0 0)],[(ah b),some ⟨1,[[.v (.int .u16 (bits .or .u16 (bits .or .u16 (bits .or .u16 (bits .or .u16 (dtI (b.toNat:Int)) 4) 16) 256) 1))]]⟩]⟩) (by kernel_rfl) (by kernel_rfl) ?_
       refine tN ?_
       refine EL.aq ?_
       refine OW.last 2 [2] (x':=⟨[(2, .ref 1 1 0 0)],[(ah b),some ⟨1,[[.v (.int .u16 (bits .or .u16 (bits .or .u16 (bits .or .u16 (bits .or .u16 (dtI (b.toNat:Int)) 4) 16) 256) 1))]]⟩]⟩) (by kernel_rfl) (by kernel_rfl) ?_
       refine EL.ret ?_
       refine ⟨.inr rfl, .v (.int .u16 (bits .or .u16 (bits .or .u16 (bits .or .u16 (bits .or .u16 (dtI (b.toNat:Int)) 4) 16) 256) 1)),by kernel_rfl,aQ.of_eq ?_⟩
       focus ((simp [aR,cD,cm, *]))
  ·
   have g1:=fU h1
   refine EL.aH (by kernel_rfl) ?_
   refine EL.eZ ?_
   refine DW.end 5 (x':=⟨(31, .v (.int .u16 (bits .or .u16 (dtI (b.toNat:Int)) 2)))::(MQ b),[(ah b),some ⟨1,[[.v (.int .u16 (bits .or .u16 (dtI (b.toNat:Int)) 2))]]⟩]⟩) (by kernel_rfl) (by kernel_rfl) ?_
   refine iN ?_
   refine tN ?_
   refine EL.aF ?_
   refine OW.end 3 (x':=⟨(6,VI 2)::(23,VI 2)::(22,VI 1)::(31, .v (.int .u16 (bits .or .u16 (dtI (b.toNat:Int)) 2)))::(MR b),[(ah b),some ⟨1,[[.v (.int .u16 (bits .or .u16 (dtI (b.toNat:Int)) 2))]]⟩]⟩) (by kernel_rfl) (by kernel_rfl) ?_
   refine tN ?_
   refine JU.step ?_
   refine EL.seq ?_
   refine EL.aq ?_
   refine OW.last 2 [2,5,6,21] (x':=⟨(Eo b),[(ah b),some ⟨1,[[.v (.int .u16 (bits .or .u16 (dtI (b.toNat:Int)) 2))]]⟩]⟩) (by kernel_rfl) (by kernel_rfl) ?_
   refine EL.aH (by kernel_rfl) ?_
   refine EL.skip ?_
   refine tN ?_
   refine EL.seq ?_
   refine EL.block ?_
   refine EL.aq ?_
   refine OW.last 4 [2,5,6,27] (x':=⟨(27, .v (.bool ((bits .and .i64 (synI (dtI (b.toNat:Int))) 2) !=0)))::(vE b),[(ah b),some ⟨1,[[.v (.int .u16 (bits .or .u16 (dtI (b.toNat:Int)) 2))]]⟩]⟩) (by kernel_rfl) (by kernel_rfl) ?_
   cases h2:((bits .and .i64 (synI (dtI (b.toNat:Int))) 2) !=0)
   ·
    have g2:=fX h2
    refine EL.aJ (by kernel_rfl) ?_
    refine EL.skip ?_
    refine iN ?_
    refine tN ?_
    refine EL.aF ?_
    refine OW.end 3 (x':=⟨(Ep b),[(ah b),some ⟨1,[[.v (.int .u16 (bits .or .u16 (dtI (b.toNat:Int)) 2))]]⟩]⟩) (by kernel_rfl) (by kernel_rfl) ?_
    refine tN ?_
    refine JU.step ?_
    refine EL.seq ?_
    refine EL.aq ?_
    refine OW.last 2 [2,5,6,21] (x':=⟨(vF b),[(ah b),some ⟨1,[[.v (.int .u16 (bits .or .u16 (dtI (b.toNat:Int)) 2))]]⟩]⟩) (by kernel_rfl) (by kernel_rfl) ?_
    refine EL.aH (by kernel_rfl) ?_
    refine EL.skip ?_
    refine tN ?_
    refine EL.seq ?_
    refine EL.block ?_
    refine EL.aq ?_
    refine OW.last 4 [2,5,6,27] (x':=⟨(27, .v (.bool ((bits .and .i64 (synI (dtI (b.toNat:Int))) 4) !=0)))::(m8 b),[(ah b),some ⟨1,[[.v (.int .u16 (bits .or .u16 (dtI (b.toNat:Int)) 2))]]⟩]⟩) (by kernel_rfl) (by kernel_rfl) ?_
    cases h10:((bits .and .i64 (synI (dtI (b.toNat:Int))) 4) !=0)
    ·
     have g10:=fX h10
     refine EL.aJ (by kernel_rfl) ?_
     refine EL.skip ?_
     refine iN ?_
     refine tN ?_
     refine EL.aF ?_
     refine OW.end 3 (x':=⟨(vG b),[(ah b),some ⟨1,[[.v (.int .u16 (bits .or .u16 (dtI (b.toNat:Int)) 2))]]⟩]⟩) (by kernel_rfl) (by kernel_rfl) ?_
     refine tN ?_
     refine JU.step ?_
     refine EL.seq ?_
     refine EL.aq ?_
     refine OW.last 2 [2,5,6,21] (x':=⟨(m9 b),[(ah b),some ⟨1,[[.v (.int .u16 (bits .or .u16 (dtI (b.toNat:Int)) 2))]]⟩]⟩) (by kernel_rfl) (by kernel_rfl) ?_
     refine EL.aH (by kernel_rfl) ?_
     refine EL.skip ?_
     refine tN ?_
     refine EL.seq ?_
     refine EL.block ?_
     refine EL.aq ?_
     refine OW.last 4 [2,5,6,27] (x':=⟨(27, .v (.bool ((bits .and .i64 (synI (dtI (b.toNat:Int))) 8) !=0)))::(gn b),[(ah b),some ⟨1,[[.v (.int .u16 (bits .or .u16 (dtI (b.toNat:Int)) 2))]]⟩]⟩) (by kernel_rfl) (by kernel_rfl) ?_
     cases h14:((bits .and .i64 (synI (dtI (b.toNat:Int))) 8) !=0)
     ·
      have g14:=fX h14
      refine EL.aJ (by kernel_rfl) ?_
      refine EL.skip ?_
      refine iN ?_
      refine tN ?_
      refine EL.aF ?_
      refine OW.end 3 (x':=⟨(na b),[(ah b),some ⟨1,[[.v (.int .u16 (bits .or .u16 (dtI (b.toNat:Int)) 2))]]⟩]⟩) (by kernel_rfl) (by kernel_rfl) ?_
      refine tN ?_
      refine JU.step ?_
      refine EL.seq ?_
      refine EL.aq ?_
      refine OW.last 2 [2,5,6,21] (x':=⟨(bN b),[(ah b),some ⟨1,[[.v (.int .u16 (bits .or .u16 (dtI (b.toNat:Int)) 2))]]⟩]⟩) (by kernel_rfl) (by kernel_rfl) ?_
      refine EL.aJ (by kernel_rfl) ?_
      refine EL.exit ?_
      refine tX ?_
      refine tX ?_
      refine iH ?_
      refine tN ?_
      refine EL.seq ?_
      refine EL.aq ?_
      refine OW.run 1 (x':=⟨(32, .v (.int .u16 (bits .or .u16 (dtI (b.toNat:Int)) 2)))::(bN b),[(ah b),some ⟨1,[[.v (.int .u16 (bits .or .u16 (dtI (b.toNat:Int)) 2))]]⟩]⟩) (by kernel_rfl) ?_
      refine OW.fn (ar:=[.v (.int .u16 (bits .or .u16 (dtI (b.toNat:Int)) 2))]) (x':=⟨(33, .v (.bool (odW (bits .or .u16 (dtI (b.toNat:Int)) 2))))::(32, .v (.int .u16 (bits .or .u16 (dtI (b.toNat:Int)) 2)))::(bN b),[(ah b),some ⟨1,[[.v (.int .u16 (bits .or .u16 (dtI (b.toNat:Int)) 2))]]⟩]⟩) (by kernel_rfl) (by kernel_rfl) ek (eT (bits .or .u16 (dtI (b.toNat:Int)) 2) (by first|exact hw|exact dB _ _ _|exact dY _)) (by kernel_rfl) (by kernel_rfl) ?_
      refine OW.last 0 [2,33] (x':=⟨[(33, .v (.bool (odW (bits .or .u16 (dtI (b.toNat:Int)) 2)))),(2, .ref 1 1 0 0)],[(ah b),some ⟨1,[[.v (.int .u16 (bits .or .u16 (dtI (b.toNat:Int)) 2))]]⟩]⟩) (by kernel_rfl) (by kernel_rfl) ?_
      cases h16:(odW (bits .or .u16 (dtI (b.toNat:Int)) 2))
      ·
       refine EL.aJ (by kernel_rfl) ?_
       refine EL.skip ?_
       refine tN ?_
       refine EL.aq ?_
       refine OW.last 2 [2] (x':=⟨[(2, .ref 1 1 0 0)],[(ah b),some ⟨1,[[.v (.int .u16 (bits .or .u16 (dtI (b.toNat:Int)) 2))]]⟩]⟩) (by kernel_rfl) (by kernel_rfl) ?_
       refine EL.ret ?_
       refine ⟨.inr rfl, .v (.int .u16 (bits .or .u16 (dtI (b.toNat:Int)) 2)),by kernel_rfl,aQ.of_eq ?_⟩
       focus ((simp [aR,cD,cm, *]))
      ·
       refine EL.aH (by kernel_rfl) ?_
       refine EL.aF ?_
       refine OW.end 3 (x':=⟨[(35, .v (.int .u16 (bits .or .u16 (bits .or .u16 (dtI (b.toNat:Int)) 2) 1))),(34, .v (.int .u16 (bits .or .u16 (dtI (b.toNat:Int)) 2))),(33, .v (.bool true)),(2, .ref 1 1 0 0)],[(ah b),some ⟨1,[[.v (.int .u16 (bits .or .u16 (bits .or .u16 (dtI (b.toNat:Int)) 2) 1))]]⟩]⟩) (by kernel_rfl) (by kernel_rfl) ?_
       refine tN ?_
       refine EL.aq ?_
       refine OW.last 2 [2] (x':=⟨[(2, .ref 1 1 0 0)],[(ah b),some ⟨1,[[.v (.int .u16 (bits .or .u16 (bits .or .u16 (dtI (b.toNat:Int)) 2) 1))]]⟩]⟩) (by kernel_rfl) (by kernel_rfl) ?_
       refine EL.ret ?_
       refine ⟨.inr rfl, .v (.int .u16 (bits .or .u16 (bits .or .u16 (dtI (b.toNat:Int)) 2) 1)),by kernel_rfl,aQ.of_eq ?_⟩
       focus ((simp [aR,cD,cm, *]))
     ·
      have g14:=fU h14
      refine EL.aH (by kernel_rfl) ?_
      refine EL.eZ ?_
      refine DW.end 5 (x':=⟨(31, .v (.int .u16 (bits .or .u16 (bits .or .u16 (dtI (b.toNat:Int)) 2) 256)))::(30, .v (.int .u16 256))::(29,VI 8)::(28, .v (.int .u16 (bits .or .u16 (dtI (b.toNat:Int)) 2)))::(27, .v (.bool true))::(gn b),[(ah b),some ⟨1,[[.v (.int .u16 (bits .or .u16 (bits .or .u16 (dtI (b.toNat:Int)) 2) 256))]]⟩]⟩) (by kernel_rfl) (by kernel_rfl) ?_
      refine iN ?_
      refine tN ?_
      refine EL.aF ?_
      refine OW.end 3 (x':=⟨(6,VI 16)::(23,VI 16)::(22,VI 8)::(31, .v (.int .u16 (bits .or .u16 (bits .or .u16 (dtI (b.toNat:Int)) 2) 256)))::(30, .v (.int .u16 256))::(29,VI 8)::(28, .v (.int .u16 (bits .or .u16 (dtI (b.toNat:Int)) 2)))::(iv b),[(ah b),some ⟨1,[[.v (.int .u16 (bits .or .u16 (bits .or .u16 (dtI (b.toNat:Int)) 2) 256))]]⟩]⟩) (by kernel_rfl) (by kernel_rfl) ?_
      refine tN ?_
      refine JU.step ?_
      refine EL.seq ?_
      refine EL.aq ?_
      refine OW.last 2 [2,5,6,21] (x':=⟨(bN b),[(ah b),some ⟨1,[[.v (.int .u16 (bits .or .u16 (bits .or .u16 (dtI (b.toNat:Int)) 2) 256))]]⟩]⟩) (by kernel_rfl) (by kernel_rfl) ?_
      refine EL.aJ (by kernel_rfl) ?_
      refine EL.exit ?_
      refine tX ?_
      refine tX ?_
      refine iH ?_
      refine tN ?_
      refine EL.seq ?_
      refine EL.aq ?_
      refine OW.run 1 (x':=⟨(32, .v (.int .u16 (bits .or .u16 (bits .or .u16 (dtI (b.toNat:Int)) 2) 256)))::(bN b),[(ah b),some ⟨1,[[.v (.int .u16 (bits .or .u16 (bits .or .u16 (dtI (b.toNat:Int)) 2) 256))]]⟩]⟩) (by kernel_rfl) ?_
      refine OW.fn (ar:=[.v (.int .u16 (bits .or .u16 (bits .or .u16 (dtI (b.toNat:Int)) 2) 256))]) (x':=⟨(33, .v (.bool (odW (bits .or .u16 (bits .or .u16 (dtI (b.toNat:Int)) 2) 256))))::(32, .v (.int .u16 (bits .or .u16 (bits .or .u16 (dtI (b.toNat:Int)) 2) 256)))::(bN b),[(ah b),some ⟨1,[[.v (.int .u16 (bits .or .u16 (bits .or .u16 (dtI (b.toNat:Int)) 2) 256))]]⟩]⟩) (by kernel_rfl) (by kernel_rfl) ek (eT (bits .or .u16 (bits .or .u16 (dtI (b.toNat:Int)) 2) 256) (by first|exact hw|exact dB _ _ _|exact dY _)) (by kernel_rfl) (by kernel_rfl) ?_
      refine OW.last 0 [2,33] (x':=⟨[(33, .v (.bool (odW (bits .or .u16 (bits .or .u16 (dtI (b.toNat:Int)) 2) 256)))),(2, .ref 1 1 0 0)],[(ah b),some ⟨1,[[.v (.int .u16 (bits .or .u16 (bits .or .u16 (dtI (b.toNat:Int)) 2) 256))]]⟩]⟩) (by kernel_rfl) (by kernel_rfl) ?_
      cases h15:(odW (bits .or .u16 (bits .or .u16 (dtI (b.toNat:Int)) 2) 256))
      ·
       refine EL.aJ (by kernel_rfl) ?_
       refine EL.skip ?_
       refine tN ?_
       refine EL.aq ?_
       refine OW.last 2 [2] (x':=⟨[(2, .ref 1 1 0 0)],[(ah b),some ⟨1,[[.v (.int .u16 (bits .or .u16 (bits .or .u16 (dtI (b.toNat:Int)) 2) 256))]]⟩]⟩) (by kernel_rfl) (by kernel_rfl) ?_
       refine EL.ret ?_
       refine ⟨.inr rfl, .v (.int .u16 (bits .or .u16 (bits .or .u16 (dtI (b.toNat:Int)) 2) 256)),by kernel_rfl,aQ.of_eq ?_⟩
       focus ((simp [aR,cD,cm, *]))
      ·
       refine EL.aH (by kernel_rfl) ?_
       refine EL.aF ?_
       refine OW.end 3 (x':=⟨[(35, .v (.int .u16 (bits .or .u16 (bits .or .u16 (bits .or .u16 (dtI (b.toNat:Int)) 2) 256) 1))),(34, .v (.int .u16 (bits .or .u16 (bits .or .u16 (dtI (b.toNat:Int)) 2) 256))),(33, .v (.bool true)),(2, .ref 1 1 0 0)],[(ah b),some ⟨1,[[.v (.int .u16 (bits .or .u16 (bits .or .u16 (bits .or .u16 (dtI (b.toNat:Int)) 2) 256) 1))]]⟩]⟩) (by kernel_rfl) (by kernel_rfl) ?_
       refine tN ?_
       refine EL.aq ?_
       refine OW.last 2 [2] (x':=⟨[(2, .ref 1 1 0 0)],[(ah b),some ⟨1,[[.v (.int .u16 (bits .or .u16 (bits .or .u16 (bits .or .u16 (dtI (b.toNat:Int)) 2) 256) 1))]]⟩]⟩) (by kernel_rfl) (by kernel_rfl) ?_
       refine EL.ret ?_
       refine ⟨.inr rfl, .v (.int .u16 (bits .or .u16 (bits .or .u16 (bits .or .u16 (dtI (b.toNat:Int)) 2) 256) 1)),by kernel_rfl,aQ.of_eq ?_⟩
       focus ((simp [aR,cD,cm, *]))
    ·
     have g10:=fU h10
     refine EL.aH (by kernel_rfl) ?_
     refine EL.eZ ?_
     refine DW.end 5 (x':=⟨(31, .v (.int .u16 (bits .or .u16 (bits .or .u16 (dtI (b.toNat:Int)) 2) 16)))::(30, .v (.int .u16 16))::(29,VI 4)::(28, .v (.int .u16 (bits .or .u16 (dtI (b.toNat:Int)) 2)))::(27, .v (.bool true))::(m8 b),[(ah b),some ⟨1,[[.v (.int .u16 (bits .or .u16 (bits .or .u16 (dtI (b.toNat:Int)) 2) 16))]]⟩]⟩) (by kernel_rfl) (by kernel_rfl) ?_
     refine iN ?_
     refine tN ?_
     refine EL.aF ?_
     refine OW.end 3 (x':=⟨(6,VI 8)::(23,VI 8)::(22,VI 4)::(31, .v (.int .u16 (bits .or .u16 (bits .or .u16 (dtI (b.toNat:Int)) 2) 16)))::(30, .v (.int .u16 16))::(29,VI 4)::(28, .v (.int .u16 (bits .or .u16 (dtI (b.toNat:Int)) 2)))::(iv b),[(ah b),some ⟨1,[[.v (.int .u16 (bits .or .u16 (bits .or .u16 (dtI (b.toNat:Int)) 2) 16))]]⟩]⟩) (by kernel_rfl) (by kernel_rfl) ?_
     refine tN ?_
     refine JU.step ?_
     refine EL.seq ?_
     refine EL.aq ?_
     refine OW.last 2 [2,5,6,21] (x':=⟨(m9 b),[(ah b),some ⟨1,[[.v (.int .u16 (bits .or .u16 (bits .or .u16 (dtI (b.toNat:Int)) 2) 16))]]⟩]⟩) (by kernel_rfl) (by kernel_rfl) ?_
     refine EL.aH (by kernel_rfl) ?_
     refine EL.skip ?_
     refine tN ?_
     refine EL.seq ?_
     refine EL.block ?_
     refine EL.aq ?_
     refine OW.last 4 [2,5,6,27] (x':=⟨(27, .v (.bool ((bits .and .i64 (synI (dtI (b.toNat:Int))) 8) !=0)))::(gn b),[(ah b),some ⟨1,[[.v (.int .u16 (bits .or .u16 (bits .or .u16 (dtI (b.toNat:Int)) 2) 16))]]⟩]⟩) (by kernel_rfl) (by kernel_rfl) ?_
     cases h11:((bits .and .i64 (synI (dtI (b.toNat:Int))) 8) !=0)
     ·
      have g11:=fX h11
      refine EL.aJ (by kernel_rfl) ?_
      refine EL.skip ?_
      refine iN ?_
      refine tN ?_
      refine EL.aF ?_
      refine OW.end 3 (x':=⟨(na b),[(ah b),some ⟨1,[[.v (.int .u16 (bits .or .u16 (bits .or .u16 (dtI (b.toNat:Int)) 2) 16))]]⟩]⟩) (by kernel_rfl) (by kernel_rfl) ?_
      refine tN ?_
      refine JU.step ?_
      refine EL.seq ?_
      refine EL.aq ?_
      refine OW.last 2 [2,5,6,21] (x':=⟨(bN b),[(ah b),some ⟨1,[[.v (.int .u16 (bits .or .u16 (bits .or .u16 (dtI (b.toNat:Int)) 2) 16))]]⟩]⟩) (by kernel_rfl) (by kernel_rfl) ?_
      refine EL.aJ (by kernel_rfl) ?_
      refine EL.exit ?_
      refine tX ?_
      refine tX ?_
      refine iH ?_
      refine tN ?_
      refine EL.seq ?_
      refine EL.aq ?_
      refine OW.run 1 (x':=⟨(32, .v (.int .u16 (bits .or .u16 (bits .or .u16 (dtI (b.toNat:Int)) 2) 16)))::(bN b),[(ah b),some ⟨1,[[.v (.int .u16 (bits .or .u16 (bits .or .u16 (dtI (b.toNat:Int)) 2) 16))]]⟩]⟩) (by kernel_rfl) ?_
      refine OW.fn (ar:=[.v (.int .u16 (bits .or .u16 (bits .or .u16 (dtI (b.toNat:Int)) 2) 16))]) (x':=⟨(33, .v (.bool (odW (bits .or .u16 (bits .or .u16 (dtI (b.toNat:Int)) 2) 16))))::(32, .v (.int .u16 (bits .or .u16 (bits .or .u16 (dtI (b.toNat:Int)) 2) 16)))::(bN b),[(ah b),some ⟨1,[[.v (.int .u16 (bits .or .u16 (bits .or .u16 (dtI (b.toNat:Int)) 2) 16))]]⟩]⟩) (by kernel_rfl) (by kernel_rfl) ek (eT (bits .or .u16 (bits .or .u16 (dtI (b.toNat:Int)) 2) 16) (by first|exact hw|exact dB _ _ _|exact dY _)) (by kernel_rfl) (by kernel_rfl) ?_
      refine OW.last 0 [2,33] (x':=⟨[(33, .v (.bool (odW (bits .or .u16 (bits .or .u16 (dtI (b.toNat:Int)) 2) 16)))),(2, .ref 1 1 0 0)],[(ah b),some ⟨1,[[.v (.int .u16 (bits .or .u16 (bits .or .u16 (dtI (b.toNat:Int)) 2) 16))]]⟩]⟩) (by kernel_rfl) (by kernel_rfl) ?_
      cases h13:(odW (bits .or .u16 (bits .or .u16 (dtI (b.toNat:Int)) 2) 16))
      ·
       refine EL.aJ (by kernel_rfl) ?_
       refine EL.skip ?_
       refine tN ?_
       refine EL.aq ?_
       refine OW.last 2 [2] (x':=⟨[(2, .ref 1 1 0 0)],[(ah b),some ⟨1,[[.v (.int .u16 (bits .or .u16 (bits .or .u16 (dtI (b.toNat:Int)) 2) 16))]]⟩]⟩) (by kernel_rfl) (by kernel_rfl) ?_
       refine EL.ret ?_
       refine ⟨.inr rfl, .v (.int .u16 (bits .or .u16 (bits .or .u16 (dtI (b.toNat:Int)) 2) 16)),by kernel_rfl,aQ.of_eq ?_⟩
       focus ((simp [aR,cD,cm, *]))
      ·
       refine EL.aH (by kernel_rfl) ?_
       refine EL.aF ?_
       refine OW.end 3 (x':=⟨[(35, .v (.int .u16 (bits .or .u16 (bits .or .u16 (bits .or .u16 (dtI (b.toNat:Int)) 2) 16) 1))),(34, .v (.int .u16 (bits .or .u16 (bits .or .u16 (dtI (b.toNat:Int)) 2) 16))),(33, .v (.bool true)),(2, .ref 1 1 0 0)],[(ah b),some ⟨1,[[.v (.int .u16 (bits .or .u16 (bits .or .u16 (bits .or .u16 (dtI (b.toNat:Int)) 2) 16) 1))]]⟩]⟩) (by kernel_rfl) (by kernel_rfl) ?_
       refine tN ?_
       refine EL.aq ?_
       refine OW.last 2 [2] (x':=⟨[(2, .ref 1 1 0 0)],[(ah b),some ⟨1,[[.v (.int .u16 (bits .or .u16 (bits .or .u16 (bits .or .u16 (dtI (b.toNat:Int)) 2) 16) 1))]]⟩]⟩) (by kernel_rfl) (by kernel_rfl) ?_
       refine EL.ret ?_
       refine ⟨.inr rfl, .v (.int .u16 (bits .or .u16 (bits .or .u16 (bits .or .u16 (dtI (b.toNat:Int)) 2) 16) 1)),by kernel_rfl,aQ.of_eq ?_⟩
       focus ((simp [aR,cD,cm, *]))
     ·
      have g11:=fU h11
      refine EL.aH (by kernel_rfl) ?_
      refine EL.eZ ?_
      refine DW.end 5 (x':=⟨(31, .v (.int .u16 (bits .or .u16 (bits .or .u16 (bits .or .u16 (dtI (b.toNat:Int)) 2) 16) 256)))::(30, .v (.int .u16 256))::(29,VI 8)::(28, .v (.int .u16 (bits .or .u16 (bits .or .u16 (dtI (b.toNat:Int)) 2) 16)))::(27, .v (.bool true))::(gn b),[(ah b),some ⟨1,[[.v (.int .u16 (bits .or .u16 (bits .or .u16 (bits .or .u16 (dtI (b.toNat:Int)) 2) 16) 256))]]⟩]⟩) (by kernel_rfl) (by kernel_rfl) ?_
      refine iN ?_
      refine tN ?_
      refine EL.aF ?_
      refine OW.end 3 (x':=⟨(6,VI 16)::(23,VI 16)::(22,VI 8)::(31, .v (.int .u16 (bits .or .u16 (bits .or .u16 (bits .or .u16 (dtI (b.toNat:Int)) 2) 16) 256)))::(30, .v (.int .u16 256))::(29,VI 8)::(28, .v (.int .u16 (bits .or .u16 (bits .or .u16 (dtI (b.toNat:Int)) 2) 16)))::(iv b),[(ah b),some ⟨1,[[.v (.int .u16 (bits .or .u16 (bits .or .u16 (bits .or .u16 (dtI (b.toNat:Int)) 2) 16) 256))]]⟩]⟩) (by kernel_rfl) (by kernel_rfl) ?_
      refine tN ?_
      refine JU.step ?_
      refine EL.seq ?_
      refine EL.aq ?_
      refine OW.last 2 [2,5,6,21] (x':=⟨(bN b),[(ah b),some ⟨1,[[.v (.int .u16 (bits .or .u16 (bits .or .u16 (bits .or .u16 (dtI (b.toNat:Int)) 2) 16) 256))]]⟩]⟩) (by kernel_rfl) (by kernel_rfl) ?_
      refine EL.aJ (by kernel_rfl) ?_
      refine EL.exit ?_
      refine tX ?_
      refine tX ?_
      refine iH ?_
      refine tN ?_
      refine EL.seq ?_
      refine EL.aq ?_
      refine OW.run 1 (x':=⟨(32, .v (.int .u16 (bits .or .u16 (bits .or .u16 (bits .or .u16 (dtI (b.toNat:Int)) 2) 16) 256)))::(bN b),[(ah b),some ⟨1,[[.v (.int .u16 (bits .or .u16 (bits .or .u16 (bits .or .u16 (dtI (b.toNat:Int)) 2) 16) 256))]]⟩]⟩) (by kernel_rfl) ?_
      refine OW.fn (ar:=[.v (.int .u16 (bits .or .u16 (bits .or .u16 (bits .or .u16 (dtI (b.toNat:Int)) 2) 16) 256))]) (x':=⟨(33, .v (.bool (odW (bits .or .u16 (bits .or .u16 (bits .or .u16 (dtI (b.toNat:Int)) 2) 16) 256))))::(32, .v (.int .u16 (bits .or .u16 (bits .or .u16 (bits .or .u16 (dtI (b.toNat:Int)) 2) 16) 256)))::(bN b),[(ah b),some ⟨1,[[.v (.int .u16 (bits .or .u16 (bits .or .u16 (bits .or .u16 (dtI (b.toNat:Int)) 2) 16) 256))]]⟩]⟩) (by kernel_rfl) (by kernel_rfl) ek (eT (bits .or .u16 (bits .or .u16 (bits .or .u16 (dtI (b.toNat:Int)) 2) 16) 256) (by first|exact hw|exact dB _ _ _|exact dY _)) (by kernel_rfl) (by kernel_rfl) ?_
      refine OW.last 0 [2,33] (x':=⟨[(33, .v (.bool (odW (bits .or .u16 (bits .or .u16 (bits .or .u16 (dtI (b.toNat:Int)) 2) 16) 256)))),(2, .ref 1 1 0 0)],[(ah b),some ⟨1,[[.v (.int .u16 (bits .or .u16 (bits .or .u16 (bits .or .u16 (dtI (b.toNat:Int)) 2) 16) 256))]]⟩]⟩) (by kernel_rfl) (by kernel_rfl) ?_
      cases h12:(odW (bits .or .u16 (bits .or .u16 (bits .or .u16 (dtI (b.toNat:Int)) 2) 16) 256))
      ·
       refine EL.aJ (by kernel_rfl) ?_
       refine EL.skip ?_
       refine tN ?_
       refine EL.aq ?_
       refine OW.last 2 [2] (x':=⟨[(2, .ref 1 1 0 0)],[(ah b),some ⟨1,[[.v (.int .u16 (bits .or .u16 (bits .or .u16 (bits .or .u16 (dtI (b.toNat:Int)) 2) 16) 256))]]⟩]⟩) (by kernel_rfl) (by kernel_rfl) ?_
       refine EL.ret ?_
       refine ⟨.inr rfl, .v (.int .u16 (bits .or .u16 (bits .or .u16 (bits .or .u16 (dtI (b.toNat:Int)) 2) 16) 256)),by kernel_rfl,aQ.of_eq ?_⟩
       focus ((simp [aR,cD,cm, *]))
      ·
       refine EL.aH (by kernel_rfl) ?_
       refine EL.aF ?_
       refine OW.end 3 (x':=⟨[(35, .v (.int .u16 (bits .or .u16 (bits .or .u16 (bits .or .u16 (bits .or .u16 (dtI (b.toNat:Int)) 2) 16) 256) 1))),(34, .v (.int .u16 (bits .or .u16 (bits .or .u16 (bits .or .u16 (dtI (b.toNat:Int)) 2) 16) 256))),(33, .v (.bool true)),(2, .ref 1 1 0 0)],[(ah b),some ⟨1,[[.v (.int .u16 (bits .or .u16 (bits .or .u16 (bits .or .u16 (bits .or .u16 (dtI (b.toNat:Int)) 2) 16) 256) 1))]]⟩]⟩) (by kernel_rfl) (by kernel_rfl) ?_
       refine tN ?_
       refine EL.aq ?_
       refine OW.last 2 [2] (x':=⟨[(2, .ref 1 1 0 0)],[(ah b),some ⟨1,[[.v (.int .u16 (bits .or .u16 (bits .or .u16 (bits .or .u16 (bits .or .u16 (dtI (b.toNat:Int)) 2) 16) 256) 1))]]⟩]⟩) (by kernel_rfl) (by kernel_rfl) ?_
       refine EL.ret ?_
       refine ⟨.inr rfl, .v (.int .u16 (bits .or .u16 (bits .or .u16 (bits .or .u16 (bits .or .u16 (dtI (b.toNat:Int)) 2) 16) 256) 1)),by kernel_rfl,aQ.of_eq ?_⟩
       focus ((simp [aR,cD,cm, *]))
   ·
    have g2:=fU h2
    refine EL.aH (by kernel_rfl) ?_
    refine EL.eZ ?_
    refine DW.end 5 (x':=⟨(31, .v (.int .u16 (bits .or .u16 (bits .or .u16 (dtI (b.toNat:Int)) 2) 4)))::(30, .v (.int .u16 4))::(29,VI 2)::(28, .v (.int .u16 (bits .or .u16 (dtI (b.toNat:Int)) 2)))::(27, .v (.bool true))::(vE b),[(ah b),some ⟨1,[[.v (.int .u16 (bits .or .u16 (bits .or .u16 (dtI (b.toNat:Int)) 2) 4))]]⟩]⟩) (by kernel_rfl) (by kernel_rfl) ?_
    refine iN ?_
    refine tN ?_
    refine EL.aF ?_
    refine OW.end 3 (x':=⟨(6,VI 4)::(23,VI 4)::(22,VI 2)::(31, .v (.int .u16 (bits .or .u16 (bits .or .u16 (dtI (b.toNat:Int)) 2) 4)))::(30, .v (.int .u16 4))::(29,VI 2)::(28, .v (.int .u16 (bits .or .u16 (dtI (b.toNat:Int)) 2)))::(iv b),[(ah b),some ⟨1,[[.v (.int .u16 (bits .or .u16 (bits .or .u16 (dtI (b.toNat:Int)) 2) 4))]]⟩]⟩) (by kernel_rfl) (by kernel_rfl) ?_
    refine tN ?_
    refine JU.step ?_
    refine EL.seq ?_
    refine EL.aq ?_
    refine OW.last 2 [2,5,6,21] (x':=⟨(vF b),[(ah b),some ⟨1,[[.v (.int .u16 (bits .or .u16 (bits .or .u16 (dtI (b.toNat:Int)) 2) 4))]]⟩]⟩) (by kernel_rfl) (by kernel_rfl) ?_
    refine EL.aH (by kernel_rfl) ?_
    refine EL.skip ?_
    refine tN ?_
    refine EL.seq ?_
    refine EL.block ?_
    refine EL.aq ?_
    refine OW.last 4 [2,5,6,27] (x':=⟨(27, .v (.bool ((bits .and .i64 (synI (dtI (b.toNat:Int))) 4) !=0)))::(m8 b),[(ah b),some ⟨1,[[.v (.int .u16 (bits .or .u16 (bits .or .u16 (dtI (b.toNat:Int)) 2) 4))]]⟩]⟩) (by kernel_rfl) (by kernel_rfl) ?_
    cases h3:((bits .and .i64 (synI (dtI (b.toNat:Int))) 4) !=0)
    ·
     have g3:=fX h3
     refine EL.aJ (by kernel_rfl) ?_
     refine EL.skip ?_
     refine iN ?_
     refine tN ?_
     refine EL.aF ?_
     refine OW.end 3 (x':=⟨(vG b),[(ah b),some ⟨1,[[.v (.int .u16 (bits .or .u16 (bits .or .u16 (dtI (b.toNat:Int)) 2) 4))]]⟩]⟩) (by kernel_rfl) (by kernel_rfl) ?_
     refine tN ?_
     refine JU.step ?_
     refine EL.seq ?_
     refine EL.aq ?_
     refine OW.last 2 [2,5,6,21] (x':=⟨(m9 b),[(ah b),some ⟨1,[[.v (.int .u16 (bits .or .u16 (bits .or .u16 (dtI (b.toNat:Int)) 2) 4))]]⟩]⟩) (by kernel_rfl) (by kernel_rfl) ?_
     refine EL.aH (by kernel_rfl) ?_
     refine EL.skip ?_
     refine tN ?_
     refine EL.seq ?_
     refine EL.block ?_
     refine EL.aq ?_
     refine OW.last 4 [2,5,6,27] (x':=⟨(27, .v (.bool ((bits .and .i64 (synI (dtI (b.toNat:Int))) 8) !=0)))::(gn b),[(ah b),some ⟨1,[[.v (.int .u16 (bits .or .u16 (bits .or .u16 (dtI (b.toNat:Int)) 2) 4))]]⟩]⟩) (by kernel_rfl) (by kernel_rfl) ?_
     cases h7:((bits .and .i64 (synI (dtI (b.toNat:Int))) 8) !=0)
     ·
      have g7:=fX h7
      refine EL.aJ (by kernel_rfl) ?_
      refine EL.skip ?_
      refine iN ?_
      refine tN ?_
      refine EL.aF ?_
      refine OW.end 3 (x':=⟨(na b),[(ah b),some ⟨1,[[.v (.int .u16 (bits .or .u16 (bits .or .u16 (dtI (b.toNat:Int)) 2) 4))]]⟩]⟩) (by kernel_rfl) (by kernel_rfl) ?_
      refine tN ?_
      refine JU.step ?_
      refine EL.seq ?_
      refine EL.aq ?_
      refine OW.last 2 [2,5,6,21] (x':=⟨(bN b),[(ah b),some ⟨1,[[.v (.int .u16 (bits .or .u16 (bits .or .u16 (dtI (b.toNat:Int)) 2) 4))]]⟩]⟩) (by kernel_rfl) (by kernel_rfl) ?_
      refine EL.aJ (by kernel_rfl) ?_
      refine EL.exit ?_
      refine tX ?_
      refine tX ?_
      refine iH ?_
      refine tN ?_
      refine EL.seq ?_
      refine EL.aq ?_
      refine OW.run 1 (x':=⟨(32, .v (.int .u16 (bits .or .u16 (bits .or .u16 (dtI (b.toNat:Int)) 2) 4)))::(bN b),[(ah b),some ⟨1,[[.v (.int .u16 (bits .or .u16 (bits .or .u16 (dtI (b.toNat:Int)) 2) 4))]]⟩]⟩) (by kernel_rfl) ?_
      refine OW.fn (ar:=[.v (.int .u16 (bits .or .u16 (bits .or .u16 (dtI (b.toNat:Int)) 2) 4))]) (x':=⟨(33, .v (.bool (odW (bits .or .u16 (bits .or .u16 (dtI (b.toNat:Int)) 2) 4))))::(32, .v (.int .u16 (bits .or .u16 (bits .or .u16 (dtI (b.toNat:Int)) 2) 4)))::(bN b),[(ah b),some ⟨1,[[.v (.int .u16 (bits .or .u16 (bits .or .u16 (dtI (b.toNat:Int)) 2) 4))]]⟩]⟩) (by kernel_rfl) (by kernel_rfl) ek (eT (bits .or .u16 (bits .or .u16 (dtI (b.toNat:Int)) 2) 4) (by first|exact hw|exact dB _ _ _|exact dY _)) (by kernel_rfl) (by kernel_rfl) ?_
      refine OW.last 0 [2,33] (x':=⟨[(33, .v (.bool (odW (bits .or .u16 (bits .or .u16 (dtI (b.toNat:Int)) 2) 4)))),(2, .ref 1 1 0 0)],[(ah b),some ⟨1,[[.v (.int .u16 (bits .or .u16 (bits .or .u16 (dtI (b.toNat:Int)) 2) 4))]]⟩]⟩) (by kernel_rfl) (by kernel_rfl) ?_
      cases h9:(odW (bits .or .u16 (bits .or .u16 (dtI (b.toNat:Int)) 2) 4))
      ·
       refine EL.aJ (by kernel_rfl) ?_
       refine EL.skip ?_
       refine tN ?_
       refine EL.aq ?_
       refine OW.last 2 [2] (x':=⟨[(2, .ref 1 1 0 0)],[(ah b),some ⟨1,[[.v (.int .u16 (bits .or .u16 (bits .or .u16 (dtI (b.toNat:Int)) 2) 4))]]⟩]⟩) (by kernel_rfl) (by kernel_rfl) ?_
       refine EL.ret ?_
       refine ⟨.inr rfl, .v (.int .u16 (bits .or .u16 (bits .or .u16 (dtI (b.toNat:Int)) 2) 4)),by kernel_rfl,aQ.of_eq ?_⟩
       focus ((simp [aR,cD,cm, *]))
      ·
       refine EL.aH (by kernel_rfl) ?_
       refine EL.aF ?_
       refine OW.end 3 (x':=⟨[(35, .v (.int .u16 (bits .or .u16 (bits .or .u16 (bits .or .u16 (dtI (b.toNat:Int)) 2) 4) 1))),(34, .v (.int .u16 (bits .or .u16 (bits .or .u16 (dtI (b.toNat:Int)) 2) 4))),(33, .v (.bool true)),(2, .ref 1 1 0 0)],[(ah b),some ⟨1,[[.v (.int .u16 (bits .or .u16 (bits .or .u16 (bits .or .u16 (dtI (b.toNat:Int)) 2) 4) 1))]]⟩]⟩) (by kernel_rfl) (by kernel_rfl) ?_
       refine tN ?_
       refine EL.aq ?_
       refine OW.last 2 [2] (x':=⟨[(2, .ref 1 1 0 0)],[(ah b),some ⟨1,[[.v (.int .u16 (bits .or .u16 (bits .or .u16 (bits .or .u16 (dtI (b.toNat:Int)) 2) 4) 1))]]⟩]⟩) (by kernel_rfl) (by kernel_rfl) ?_
       refine EL.ret ?_
       refine ⟨.inr rfl, .v (.int .u16 (bits .or .u16 (bits .or .u16 (bits .or .u16 (dtI (b.toNat:Int)) 2) 4) 1)),by kernel_rfl,aQ.of_eq ?_⟩
       focus ((simp [aR,cD,cm, *]))
     ·
      have g7:=fU h7
      refine EL.aH (by kernel_rfl) ?_
      refine EL.eZ ?_
      refine DW.end 5 (x':=⟨(31, .v (.int .u16 (bits .or .u16 (bits .or .u16 (bits .or .u16 (dtI (b.toNat:Int)) 2) 4) 256)))::(30, .v (.int .u16 256))::(29,VI 8)::(28, .v (.int .u16 (bits .or .u16 (bits .or .u16 (dtI (b.toNat:Int)) 2) 4)))::(27, .v (.bool true))::(gn b),[(ah b),some ⟨1,[[.v (.int .u16 (bits .or .u16 (bits .or .u16 (bits .or .u16 (dtI (b.toNat:Int)) 2) 4) 256))]]⟩]⟩) (by kernel_rfl) (by kernel_rfl) ?_
      refine iN ?_
      refine tN ?_
      refine EL.aF ?_
      refine OW.end 3 (x':=⟨(6,VI 16)::(23,VI 16)::(22,VI 8)::(31, .v (.int .u16 (bits .or .u16 (bits .or .u16 (bits .or .u16 (dtI (b.toNat:Int)) 2) 4) 256)))::(30, .v (.int .u16 256))::(29,VI 8)::(28, .v (.int .u16 (bits .or .u16 (bits .or .u16 (dtI (b.toNat:Int)) 2) 4)))::(iv b),[(ah b),some ⟨1,[[.v (.int .u16 (bits .or .u16 (bits .or .u16 (bits .or .u16 (dtI (b.toNat:Int)) 2) 4) 256))]]⟩]⟩) (by kernel_rfl) (by kernel_rfl) ?_
      refine tN ?_
      refine JU.step ?_
      refine EL.seq ?_
      refine EL.aq ?_
      refine OW.last 2 [2,5,6,21] (x':=⟨(bN b),[(ah b),some ⟨1,[[.v (.int .u16 (bits .or .u16 (bits .or .u16 (bits .or .u16 (dtI (b.toNat:Int)) 2) 4) 256))]]⟩]⟩) (by kernel_rfl) (by kernel_rfl) ?_
      refine EL.aJ (by kernel_rfl) ?_
      refine EL.exit ?_
      refine tX ?_
      refine tX ?_
      refine iH ?_
      refine tN ?_
      refine EL.seq ?_
      refine EL.aq ?_
      refine OW.run 1 (x':=⟨(32, .v (.int .u16 (bits .or .u16 (bits .or .u16 (bits .or .u16 (dtI (b.toNat:Int)) 2) 4) 256)))::(bN b),[(ah b),some ⟨1,[[.v (.int .u16 (bits .or .u16 (bits .or .u16 (bits .or .u16 (dtI (b.toNat:Int)) 2) 4) 256))]]⟩]⟩) (by kernel_rfl) ?_
      refine OW.fn (ar:=[.v (.int .u16 (bits .or .u16 (bits .or .u16 (bits .or .u16 (dtI (b.toNat:Int)) 2) 4) 256))]) (x':=⟨(33, .v (.bool (odW (bits .or .u16 (bits .or .u16 (bits .or .u16 (dtI (b.toNat:Int)) 2) 4) 256))))::(32, .v (.int .u16 (bits .or .u16 (bits .or .u16 (bits .or .u16 (dtI (b.toNat:Int)) 2) 4) 256)))::(bN b),[(ah b),some ⟨1,[[.v (.int .u16 (bits .or .u16 (bits .or .u16 (bits .or .u16 (dtI (b.toNat:Int)) 2) 4) 256))]]⟩]⟩) (by kernel_rfl) (by kernel_rfl) ek (eT (bits .or .u16 (bits .or .u16 (bits .or .u16 (dtI (b.toNat:Int)) 2) 4) 256) (by first|exact hw|exact dB _ _ _|exact dY _)) (by kernel_rfl) (by kernel_rfl) ?_
      refine OW.last 0 [2,33] (x':=⟨[(33, .v (.bool (odW (bits .or .u16 (bits .or .u16 (bits .or .u16 (dtI (b.toNat:Int)) 2) 4) 256)))),(2, .ref 1 1 0 0)],[(ah b),some ⟨1,[[.v (.int .u16 (bits .or .u16 (bits .or .u16 (bits .or .u16 (dtI (b.toNat:Int)) 2) 4) 256))]]⟩]⟩) (by kernel_rfl) (by kernel_rfl) ?_
      cases h8:(odW (bits .or .u16 (bits .or .u16 (bits .or .u16 (dtI (b.toNat:Int)) 2) 4) 256))
      ·
       refine EL.aJ (by kernel_rfl) ?_
       refine EL.skip ?_
       refine tN ?_
       refine EL.aq ?_
       refine OW.last 2 [2] (x':=⟨[(2, .ref 1 1 0 0)],[(ah b),some ⟨1,[[.v (.int .u16 (bits .or .u16 (bits .or .u16 (bits .or .u16 (dtI (b.toNat:Int)) 2) 4) 256))]]⟩]⟩) (by kernel_rfl) (by kernel_rfl) ?_
       refine EL.ret ?_
       refine ⟨.inr rfl, .v (.int .u16 (bits .or .u16 (bits .or .u16 (bits .or .u16 (dtI (b.toNat:Int)) 2) 4) 256)),by kernel_rfl,aQ.of_eq ?_⟩
       focus ((simp [aR,cD,cm, *]))
      ·
       refine EL.aH (by kernel_rfl) ?_
       refine EL.aF ?_
       refine OW.end 3 (x':=⟨[(35, .v (.int .u16 (bits .or .u16 (bits .or .u16 (bits .or .u16 (bits .or .u16 (dtI (b.toNat:Int)) 2) 4) 256) 1))),(34, .v (.int .u16 (bits .or .u16 (bits .or .u16 (bits .or .u16 (dtI (b.toNat:Int)) 2) 4) 256))),(33, .v (.bool true)),(2, .ref 1 1 0 0)],[(ah b),some ⟨1,[[.v (.int .u16 (bits .or .u16 (bits .or .u16 (bits .or .u16 (bits .or .u16 (dtI (b.toNat:Int)) 2) 4) 256) 1))]]⟩]⟩) (by kernel_rfl) (by kernel_rfl) ?_
       refine tN ?_
       refine EL.aq ?_
       refine OW.last 2 [2] (x':=⟨[(2, .ref 1 1 0 0)],[(ah b),some ⟨1,[[.v (.int .u16 (bits .or .u16 (bits .or .u16 (bits .or .u16 (bits .or .u16 (dtI (b.toNat:Int)) 2) 4) 256) 1))]]⟩]⟩) (by kernel_rfl) (by kernel_rfl) ?_
       refine EL.ret ?_
       refine ⟨.inr rfl, .v (.int .u16 (bits .or .u16 (bits .or .u16 (bits .or .u16 (bits .or .u16 (dtI (b.toNat:Int)) 2) 4) 256) 1)),by kernel_rfl,aQ.of_eq ?_⟩
       focus ((simp [aR,cD,cm, *]))
    ·
     have g3:=fU h3
     refine EL.aH (by kernel_rfl) ?_
     refine EL.eZ ?_
     refine DW.end 5 (x':=⟨(31, .v (.int .u16 (bits .or .u16 (bits .or .u16 (bits .or .u16 (dtI (b.toNat:Int)) 2) 4) 16)))::(30, .v (.int .u16 16))::(29,VI 4)::(28, .v (.int .u16 (bits .or .u16 (bits .or .u16 (dtI (b.toNat:Int)) 2) 4)))::(27, .v (.bool true))::(m8 b),[(ah b),some ⟨1,[[.v (.int .u16 (bits .or .u16 (bits .or .u16 (bits .or .u16 (dtI (b.toNat:Int)) 2) 4) 16))]]⟩]⟩) (by kernel_rfl) (by kernel_rfl) ?_
     refine iN ?_
     refine tN ?_
     refine EL.aF ?_
     refine OW.end 3 (x':=⟨(6,VI 8)::(23,VI 8)::(22,VI 4)::(31, .v (.int .u16 (bits .or .u16 (bits .or .u16 (bits .or .u16 (dtI (b.toNat:Int)) 2) 4) 16)))::(30, .v (.int .u16 16))::(29,VI 4)::(28, .v (.int .u16 (bits .or .u16 (bits .or .u16 (dtI (b.toNat:Int)) 2) 4)))::(iv b),[(ah b),some ⟨1,[[.v (.int .u16 (bits .or .u16 (bits .or .u16 (bits .or .u16 (dtI (b.toNat:Int)) 2) 4) 16))]]⟩]⟩) (by kernel_rfl) (by kernel_rfl) ?_
     refine tN ?_
     refine JU.step ?_
     refine EL.seq ?_
     refine EL.aq ?_
     refine OW.last 2 [2,5,6,21] (x':=⟨(m9 b),[(ah b),some ⟨1,[[.v (.int .u16 (bits .or .u16 (bits .or .u16 (bits .or .u16 (dtI (b.toNat:Int)) 2) 4) 16))]]⟩]⟩) (by kernel_rfl) (by kernel_rfl) ?_
     refine EL.aH (by kernel_rfl) ?_
     refine EL.skip ?_
     refine tN ?_
     refine EL.seq ?_
     refine EL.block ?_
     refine EL.aq ?_
     refine OW.last 4 [2,5,6,27] (x':=⟨(27, .v (.bool ((bits .and .i64 (synI (dtI (b.toNat:Int))) 8) !=0)))::(gn b),[(ah b),some ⟨1,[[.v (.int .u16 (bits .or .u16 (bits .or .u16 (bits .or .u16 (dtI (b.toNat:Int)) 2) 4) 16))]]⟩]⟩) (by kernel_rfl) (by kernel_rfl) ?_
     cases h4:((bits .and .i64 (synI (dtI (b.toNat:Int))) 8) !=0)
     ·
      have g4:=fX h4
      refine EL.aJ (by kernel_rfl) ?_
      refine EL.skip ?_
      refine iN ?_
      refine tN ?_
      refine EL.aF ?_
      refine OW.end 3 (x':=⟨(na b),[(ah b),some ⟨1,[[.v (.int .u16 (bits .or .u16 (bits .or .u16 (bits .or .u16 (dtI (b.toNat:Int)) 2) 4) 16))]]⟩]⟩) (by kernel_rfl) (by kernel_rfl) ?_
      refine tN ?_
      refine JU.step ?_
      refine EL.seq ?_
      refine EL.aq ?_
      refine OW.last 2 [2,5,6,21] (x':=⟨(bN b),[(ah b),some ⟨1,[[.v (.int .u16 (bits .or .u16 (bits .or .u16 (bits .or .u16 (dtI (b.toNat:Int)) 2) 4) 16))]]⟩]⟩) (by kernel_rfl) (by kernel_rfl) ?_
      refine EL.aJ (by kernel_rfl) ?_
      refine EL.exit ?_
      refine tX ?_
      refine tX ?_
      refine iH ?_
      refine tN ?_
      refine EL.seq ?_
      refine EL.aq ?_
      refine OW.run 1 (x':=⟨(32, .v (.int .u16 (bits .or .u16 (bits .or .u16 (bits .or .u16 (dtI (b.toNat:Int)) 2) 4) 16)))::(bN b),[(ah b),some ⟨1,[[.v (.int .u16 (bits .or .u16 (bits .or .u16 (bits .or .u16 (dtI (b.toNat:Int)) 2) 4) 16))]]⟩]⟩) (by kernel_rfl) ?_
      refine OW.fn (ar:=[.v (.int .u16 (bits .or .u16 (bits .or .u16 (bits .or .u16 (dtI (b.toNat:Int)) 2) 4) 16))]) (x':=⟨(33, .v (.bool (odW (bits .or .u16 (bits .or .u16 (bits .or .u16 (dtI (b.toNat:Int)) 2) 4) 16))))::(32, .v (.int .u16 (bits .or .u16 (bits .or .u16 (bits .or .u16 (dtI (b.toNat:Int)) 2) 4) 16)))::(bN b),[(ah b),some ⟨1,[[.v (.int .u16 (bits .or .u16 (bits .or .u16 (bits .or .u16 (dtI (b.toNat:Int)) 2) 4) 16))]]⟩]⟩) (by kernel_rfl) (by kernel_rfl) ek (eT (bits .or .u16 (bits .or .u16 (bits .or .u16 (dtI (b.toNat:Int)) 2) 4) 16) (by first|exact hw|exact dB _ _ _|exact dY _)) (by kernel_rfl) (by kernel_rfl) ?_
      refine OW.last 0 [2,33] (x':=⟨[(33, .v (.bool (odW (bits .or .u16 (bits .or .u16 (bits .or .u16 (dtI (b.toNat:Int)) 2) 4) 16)))),(2, .ref 1 1 0 0)],[(ah b),some ⟨1,[[.v (.int .u16 (bits .or .u16 (bits .or .u16 (bits .or .u16 (dtI (b.toNat:Int)) 2) 4) 16))]]⟩]⟩) (by kernel_rfl) (by kernel_rfl) ?_
      cases h6:(odW (bits .or .u16 (bits .or .u16 (bits .or .u16 (dtI (b.toNat:Int)) 2) 4) 16))
      ·
       refine EL.aJ (by kernel_rfl) ?_
       refine EL.skip ?_
       refine tN ?_
       refine EL.aq ?_
       refine OW.last 2 [2] (x':=⟨[(2, .ref 1 1 0 0)],[(ah b),some ⟨1,[[.v (.int .u16 (bits .or .u16 (bits .or .u16 (bits .or .u16 (dtI (b.toNat:Int)) 2) 4) 16))]]⟩]⟩) (by kernel_rfl) (by kernel_rfl) ?_
       refine EL.ret ?_
       refine ⟨.inr rfl, .v (.int .u16 (bits .or .u16 (bits .or .u16 (bits .or .u16 (dtI (b.toNat:Int)) 2) 4) 16)),by kernel_rfl,aQ.of_eq ?_⟩
       focus ((simp [aR,cD,cm, *]))
      ·
       refine EL.aH (by kernel_rfl) ?_
       refine EL.aF ?_
       refine OW.end 3 (x':=⟨[(35, .v (.int .u16 (bits .or .u16 (bits .or .u16 (bits .or .u16 (bits .or .u16 (dtI (b.toNat:Int)) 2) 4) 16) 1))),(34, .v (.int .u16 (bits .or .u16 (bits .or .u16 (bits .or .u16 (dtI (b.toNat:Int)) 2) 4) 16))),(33, .v (.bool true)),(2, .ref 1 1 0 0)],[(ah b),some ⟨1,[[.v (.int .u16 (bits .or .u16 (bits .or .u16 (bits .or .u16 (bits .or .u16 (dtI (b.toNat:Int)) 2) 4) 16) 1))]]⟩]⟩) (by kernel_rfl) (by kernel_rfl) ?_
       refine tN ?_
       refine EL.aq ?_
       refine OW.last 2 [2] (x':=⟨[(2, .ref 1 1 0 0)],[(ah b),some ⟨1,[[.v (.int .u16 (bits .or .u16 (bits .or .u16 (bits .or .u16 (bits .or .u16 (dtI (b.toNat:Int)) 2) 4) 16) 1))]]⟩]⟩) (by kernel_rfl) (by kernel_rfl) ?_
       refine EL.ret ?_
       refine ⟨.inr rfl, .v (.int .u16 (bits .or .u16 (bits .or .u16 (bits .or .u16 (bits .or .u16 (dtI (b.toNat:Int)) 2) 4) 16) 1)),by kernel_rfl,aQ.of_eq ?_⟩
       focus ((simp [aR,cD,cm, *]))
     ·
      have g4:=fU h4
      refine EL.aH (by kernel_rfl) ?_
      refine EL.eZ ?_
      refine DW.end 5 (x':=⟨(31, .v (.int .u16 (bits .or .u16 (bits .or .u16 (bits .or .u16 (bits .or .u16 (dtI (b.toNat:Int)) 2) 4) 16) 256)))::(30, .v (.int .u16 256))::(29,VI 8)::(28, .v (.int .u16 (bits .or .u16 (bits .or .u16 (bits .or .u16 (dtI (b.toNat:Int)) 2) 4) 16)))::(27, .v (.bool true))::(gn b),[(ah b),some ⟨1,[[.v (.int .u16 (bits .or .u16 (bits .or .u16 (bits .or .u16 (bits .or .u16 (dtI (b.toNat:Int)) 2) 4) 16) 256))]]⟩]⟩) (by kernel_rfl) (by kernel_rfl) ?_
      refine iN ?_
      refine tN ?_
      refine EL.aF ?_
      refine OW.end 3 (x':=⟨(6,VI 16)::(23,VI 16)::(22,VI 8)::(31, .v (.int .u16 (bits .or .u16 (bits .or .u16 (bits .or .u16 (bits .or .u16 (dtI (b.toNat:Int)) 2) 4) 16) 256)))::(30, .v (.int .u16 256))::(29,VI 8)::(28, .v (.int .u16 (bits .or .u16 (bits .or .u16 (bits .or .u16 (dtI (b.toNat:Int)) 2) 4) 16)))::(iv b),[(ah b),some ⟨1,[[.v (.int .u16 (bits .or .u16 (bits .or .u16 (bits .or .u16 (bits .or .u16 (dtI (b.toNat:Int)) 2) 4) 16) 256))]]⟩]⟩) (by kernel_rfl) (by kernel_rfl) ?_
      refine tN ?_
      refine JU.step ?_
      refine EL.seq ?_
      refine EL.aq ?_
      refine OW.last 2 [2,5,6,21] (x':=⟨(bN b),[(ah b),some ⟨1,[[.v (.int .u16 (bits .or .u16 (bits .or .u16 (bits .or .u16 (bits .or .u16 (dtI (b.toNat:Int)) 2) 4) 16) 256))]]⟩]⟩) (by kernel_rfl) (by kernel_rfl) ?_
      refine EL.aJ (by kernel_rfl) ?_
      refine EL.exit ?_
      refine tX ?_
      refine tX ?_
      refine iH ?_
      refine tN ?_
      refine EL.seq ?_
      refine EL.aq ?_
      refine OW.run 1 (x':=⟨(32, .v (.int .u16 (bits .or .u16 (bits .or .u16 (bits .or .u16 (bits .or .u16 (dtI (b.toNat:Int)) 2) 4) 16) 256)))::(bN b),[(ah b),some ⟨1,[[.v (.int .u16 (bits .or .u16 (bits .or .u16 (bits .or .u16 (bits .or .u16 (dtI (b.toNat:Int)) 2) 4) 16) 256))]]⟩]⟩) (by kernel_rfl) ?_
      refine OW.fn (ar:=[.v (.int .u16 (bits .or .u16 (bits .or .u16 (bits .or .u16 (bits .or .u16 (dtI (b.toNat:Int)) 2) 4) 16) 256))]) (x':=⟨(33, .v (.bool (odW (bits .or .u16 (bits .or .u16 (bits .or .u16 (bits .or .u16 (dtI (b.toNat:Int)) 2) 4) 16) 256))))::(32, .v (.int .u16 (bits .or .u16 (bits .or .u16 (bits .or .u16 (bits .or .u16 (dtI (b.toNat:Int)) 2) 4) 16) 256)))::(bN b),[(ah b),some ⟨1,[[.v (.int .u16 (bits .or .u16 (bits .or .u16 (bits .or .u16 (bits .or .u16 (dtI (b.toNat:Int)) 2) 4) 16) 256))]]⟩]⟩) (by kernel_rfl) (by kernel_rfl) ek (eT (bits .or .u16 (bits .or .u16 (bits .or .u16 (bits .or .u16 (dtI (b.toNat:Int)) 2) 4) 16) 256) (by first|exact hw|exact dB _ _ _|exact dY _)) (by kernel_rfl) (by kernel_rfl) ?_
      refine OW.last 0 [2,33] (x':=⟨[(33, .v (.bool (odW (bits .or .u16 (bits .or .u16 (bits .or .u16 (bits .or .u16 (dtI (b.toNat:Int)) 2) 4) 16) 256)))),(2, .ref 1 1 0 0)],[(ah b),some ⟨1,[[.v (.int .u16 (bits .or .u16 (bits .or .u16 (bits .or .u16 (bits .or .u16 (dtI (b.toNat:Int)) 2) 4) 16) 256))]]⟩]⟩) (by kernel_rfl) (by kernel_rfl) ?_
      cases h5:(odW (bits .or .u16 (bits .or .u16 (bits .or .u16 (bits .or .u16 (dtI (b.toNat:Int)) 2) 4) 16) 256))
      ·
       refine EL.aJ (by kernel_rfl) ?_
       refine EL.skip ?_
       refine tN ?_
       refine EL.aq ?_
       refine OW.last 2 [2] (x':=⟨[(2, .ref 1 1 0 0)],[(ah b),some ⟨1,[[.v (.int .u16 (bits .or .u16 (bits .or .u16 (bits .or .u16 (bits .or .u16 (dtI (b.toNat:Int)) 2) 4) 16) 256))]]⟩]⟩) (by kernel_rfl) (by kernel_rfl) ?_
       refine EL.ret ?_
       refine ⟨.inr rfl, .v (.int .u16 (bits .or .u16 (bits .or .u16 (bits .or .u16 (bits .or .u16 (dtI (b.toNat:Int)) 2) 4) 16) 256)),by kernel_rfl,aQ.of_eq ?_⟩
       focus ((simp [aR,cD,cm, *]))
      ·
       refine EL.aH (by kernel_rfl) ?_
       refine EL.aF ?_
       refine OW.end 3 (x':=⟨[(35, .v (.int .u16 (bits .or .u16 (bits .or .u16 (bits .or .u16 (bits .or .u16 (bits .or .u16 (dtI (b.toNat:Int)) 2) 4) 16) 256) 1))),(34, .v (.int .u16 (bits .or .u16 (bits .or .u16 (bits .or .u16 (bits .or .u16 (dtI (b.toNat:Int)) 2) 4) 16) 256))),(33, .v (.bool true)),(2, .ref 1 1 0 0)],[(ah b),some ⟨1,[[.v (.int .u16 (bits .or .u16 (bits .or .u16 (bits .or .u16 (bits .or .u16 (bits .or .u16 (dtI (b.toNat:Int)) 2) 4) 16) 256) 1))]]⟩]⟩) (by kernel_rfl) (by kernel_rfl) ?_
       refine tN ?_
       refine EL.aq ?_
       refine OW.last 2 [2] (x':=⟨[(2, .ref 1 1 0 0)],[(ah b),some ⟨1,[[.v (.int .u16 (bits .or .u16 (bits .or .u16 (bits .or .u16 (bits .or .u16 (bits .or .u16 (dtI (b.toNat:Int)) 2) 4) 16) 256) 1))]]⟩]⟩) (by kernel_rfl) (by kernel_rfl) ?_
       refine EL.ret ?_
       refine ⟨.inr rfl, .v (.int .u16 (bits .or .u16 (bits .or .u16 (bits .or .u16 (bits .or .u16 (bits .or .u16 (dtI (b.toNat:Int)) 2) 4) 16) 256) 1)),by kernel_rfl,aQ.of_eq ?_⟩
       focus ((simp [aR,cD,cm, *]))
end Go.Proofs.Ytimomnfobfjggaa
