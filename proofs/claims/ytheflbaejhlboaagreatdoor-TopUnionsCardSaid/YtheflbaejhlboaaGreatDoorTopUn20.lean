/- A part of the proof of a law of package confluencetop: lemmas, no condition of ours. -/
import Derived.Test.YtheflbaejhlboaaGreatDoorTopUn18
import Derived.Test.YtheflbaejhlboaaGreatDoorTopUn19
import Derived.Test.YtheflbaejhlboaaGreatDoorProg
import Derived.Shelf.Strings.OnBuilder
import Derived.KernelRfl
set_option linter.unusedVariables false
set_option linter.unusedSectionVars false
set_option linter.unusedSimpArgs false
namespace Go.Proofs.YtheflbaejhlboaaGreatDoor.Ev
open Go
noncomputable section
def vI (n:Nat):Zc := .int .i64 (.ofNat n)
def vJ (n:Nat):Zc := .int .i64 (.negSucc n)
def vP (i o:Nat):Zc := .ptr i o
def vL (i o n:Nat):Zc := .slice i o n none
def vM (i:Nat):Zc := .map i
def vT:Zc := .bool true
def vF:Zc := .bool false
def byN (k:Nat):Nat→List UInt8:=@Nat.rec (fun _=>Nat→List UInt8) (fun _=>[]) (fun _ ih n=>UInt8.ofNat (Nat.mod n 256)::ih (Nat.div n 256)) k
def ceN (k:Nat):Nat→List Zc:=@Nat.rec (fun _=>Nat→List Zc) (fun _=>[]) (fun _ ih n => .int .u8 (.ofNat (Nat.mod n 256))::ih (Nat.div n 256)) k
def vX (k n:Nat):Zc := .str (byN k n)
def bC (cs:List Zc) (e:Nat):Zd := .cells cs e false
def bO (cs:List Zc) (e:Nat):Zd := .cells cs e true
def bZ (k n:Nat):Zd := .cells (ceN k n) 1 true
def bM (es:List Entry) (c:Nat):Zd := .map es c
end
end Go.Proofs.YtheflbaejhlboaaGreatDoor.Ev
namespace Go.Proofs.YtheflbaejhlboaaGreatDoor.Ev
open Go
noncomputable section
def Bh (sep:List UInt8):List Zc→Option (List UInt8)
 | []=>some []
 | v::l=>match v with
  | .str s=>match l with
   | []=>some s
   | l=>match Bh sep l with
    | some r=>some (s++(sep++r))
    | none=>none
  | _=>none
def Zhr (n:Nat) (o:Option (List UInt8)):Option (List UInt8):=match o with
 | some l=>sel (Nat.ble l.length 65536) (sel (Nat.ble n 65536) (some l) none) none
 | none=>none
def Zew (n:Nat) (sep:List UInt8) (o:Option (List Zc)):Option (List UInt8):=match o with
 | some l=>Zhr n (Bh sep l)
 | none=>none
def Zex (s:St) (off n:Nat) (sep:List UInt8) (c:Cs):R:=match c with
 | .mk cs _ _=>SG s (Zew n sep (sub cs off n))
 | .bad => .bad
def Za1 (args:List Zc) (s:St):R:=match args with
 | [.Za,.str _] => .ok (.str []) s
 | [.slice id off n _,.str sep]=>Zex s off n sep (s.ZQ id)
 | _ => .bad
def Za2:Orc:=⟨Za1⟩
def Zhs:Zc→List Nat
 | .slice i _ _ _=>[i]
 | _=>[]
def ZfA (off n:Nat) (c:Cs):List Nat:=match c with
 | .mk cs _ _=>(match Yy (off+n*5+3) cs with
  | .ok v=>Zhs v
  | .bad=>[])
 | .bad=>[]
def Zht (s:St):Zc→List Nat
 | .slice id off (n+1) _=>id::ZfA off n (s.ZQ id)
 | _=>[]
def Zhu (s:St) (c:Cs):List Nat:=match c with
 | .mk [_,op,dn] _ _=>Zhs dn++Zht s op
 | _=>[]
def DY (args:List Zc) (s:St):List Nat:=match args with
 | [.ptr r _,_]=>r::Zhu s (s.ZQ r)
 | _=>[]
def Bj (s:St) (b c:Nat) (k:Zc):R:=match k with
 | .int .i64 n=>sel (Nat.blt b c) (sel (ieq (VQ .i64 n) n) (.ok (.slice s.next 0 1 none) (s.new (.cells [k] 1 true))) .bad) .bad
 | _ => .bad
def Bk (s:St) (m:Mp):R:=match m with
 | .mk [] _ => .ok .Za s
 | .mk [(k,_,b)] c=>Bj s b c k
 | _ => .bad
def Zey (s:St) (c:Cs):R:=match c with
 | .mk [.map m] _ _=>Bk s (s.JI m)
 | _ => .bad
def Za3 (f:FuncId) (args:List Zc) (s:St):R:=match args with
 | [.func g [] [.ptr c 0]]=>sel (Nat.beq g f) (Zey s (s.ZQ c)) .bad
 | _ => .bad
def Bl (f:FuncId):Orc:=⟨Za3 f⟩
def KJ:List Entry→Option (List (List UInt8))
 | []=>some []
 | (k,_,_)::l=>match k,KJ l with
  | .str b,some r=>some (b::r)
  | _,_=>none
def Tg (x:List UInt8):List (List UInt8)→List (List UInt8)
 | []=>[x]
 | y::l=>sel (Jn y x) (y::Tg x l) (x::y::l)
def Ny:List (List UInt8)→List (List UInt8)
 | []=>[]
 | x::l=>Tg x (Ny l)
def Za4:List (List UInt8)→List Zc
 | []=>[]
 | b::l => .str b::Za4 l
def Za5:List (List UInt8)→Bool
 | []=>true
 | b::l=>sel (Nat.ble b.length 65536) (Za5 l) false
def TS (s:St) (o:Option (List (List UInt8))):R:=match o with
 | some [] => .ok .Za s
 | some l=>sel (Nat.ble l.length 65536) (.ok (.slice s.next 0 l.length none) (s.new (.cells (Za4 (Ny l)) 1 true))) .bad
 | none => .bad
def W6:List Entry→List Nat
 | []=>[]
 | (_,_,b)::l=>b::W6 l
def PW (n:Nat):List Nat→Bool
 | []=>true
 | i::l=>sel (Nat.blt i n) (PW n l) false
def ndN:List Nat→Bool
 | []=>true
 | i::l=>sel (Wv i l) false (ndN l)
def Nz (b:List UInt8):List (List UInt8)→Bool
 | []=>false
 | c::l=>sel (Qv b c) true (Nz b l)
def ndB:List (List UInt8)→Bool
 | []=>true
 | b::l=>sel (Nz b l) false (ndB l)
def PX (es:List Entry) (c:Nat) (ks:Option (List (List UInt8))):Bool:=match ks with
 | some ks=>sel (PW c (W6 es)) (sel (ndN (W6 es)) (sel (ndB ks) (Za5 ks) false) false) false
 | none=>false
def Bn (s:St) (m:Mp):R:=match m with
 | .mk es c=>sel (PX es c (KJ es)) (TS s (KJ es)) .bad
 | .bad => .bad
def Bo (s:St) (c:Cs):R:=match c with
 | .mk [.map m] _ _=>Bn s (s.JI m)
 | _ => .bad
def Hb (f:FuncId) (args:List Zc) (s:St):R:=match args with
 | [.func g [] [.ptr c 0]]=>sel (Nat.beq g f) (Bo s (s.ZQ c)) .bad
 | _ => .bad
def Sn (f:FuncId):Orc:=⟨Hb f⟩
def Fc (t:TypeId) (s:St) (m:Mp):R:=match m with
 | .mk es c => .ok (.iface t (.map s.next)) (s.new (.map es c))
 | .bad => .bad
def DZ (args:List Zc) (s:St):R:=match args with
 | [.iface t (.map m)]=>Fc t s (s.JI m)
 | _ => .bad
def Hc:Orc:=⟨DZ⟩
def Za6 (P:Program) (s:St) (e:Option (Array Value→Sem Value)) (vs:Option (List Value)):R:=match e,vs with
 | some e,some vs=>V.ret s (H9 P (e vs.toArray))
 | _,_ => .bad
def W7 (P:Program) (fn:Func):Orc:=⟨fun args s=>Za6 P s (Extern.find fn) (toVs args)⟩
def inU (c a b:Int):Bool:=sel (ile (.ofNat 0) (Ku c a b)) (ile (RR c a b) (.ofNat 18446744073709551615)) false
def Fe (c a b:Int) (h:Nat):V := .ok (.tuple [mkS .u64 c a b,.int .u64 (.ofNat h)])
def Zdh (c a b:Int):V:=sel (inU c a b) (Fe c a b 0) (sel (inU (c - .ofNat 18446744073709551616) a b) (Fe (c - .ofNat 18446744073709551616) a b 1) .bad)
def Zdi (c a b:Int):V:=sel (inU c a b) (Fe c a b 0) (sel (inU (c + .ofNat 18446744073709551616) a b) (Fe (c + .ofNat 18446744073709551616) a b 1) .bad)
def D1 (k:IntKind) (c a b d e f:Int) (v:V):V:=sel (keq k .u64) (sel (inU c a b) (sel (inU d e f) v .bad) .bad) .bad
def ZiC (z:Nat) (p:Sy):V:=match p with
 | .mk k c a b d e f=>sel (Nat.ble z 1) (D1 k c a b d e f (Zdh (c+d + .ofNat z) (a+e) (b+f))) .bad
 | .none => .bad
def ZiD (z:Nat) (p:Sy):V:=match p with
 | .mk k c a b d e f=>sel (Nat.ble z 1) (D1 k c a b d e f (Zdi (c-d - .ofNat z) (a-e) (b-f))) .bad
 | .none => .bad
def Zhv (p:Sy):Bool:=match p with
 | .mk _ _ _ _ _ _ _=>true
 | .none=>false
def Bp (c a b:Int):V:=sel (inU c a b) (.ok (.tuple [.int .u64 (.ofNat 0),mkS .u64 c a b])) .bad
def ZfB (c a b d e f:Int):V:=sel (sel (ieq a (.ofNat 0)) (ieq b (.ofNat 0)) false) (Bp (c*d) (c*e) (c*f))
 (sel (sel (ieq e (.ofNat 0)) (ieq f (.ofNat 0)) false) (Bp (d*c) (d*a) (d*b)) .bad)
def Zhw (p:Sy):V:=match p with
 | .mk k c a b d e f=>D1 k c a b d e f (ZfB c a b d e f)
 | .none => .bad
def mulN (a b:Nat):V:=sel (Nat.blt a 18446744073709551616) (sel (Nat.blt b 18446744073709551616)
 (.ok (.tuple [.int .u64 (.ofNat (Nat.div (a*b) 18446744073709551616)),.int .u64 (.ofNat (Nat.mod (a*b) 18446744073709551616))])) .bad) .bad
def Zhx (x y:Zc):V:=match x,y with
 | .int .u64 (.ofNat a),.int .u64 (.ofNat b)=>mulN a b
 | x,y=>Zhw (Xx x y)
def mulR (args:List Zc) (s:St):R:=match args with
 | [x,y]=>V.ret s (Zhx x y)
 | _ => .bad
def Zdj:Orc:=⟨mulR⟩
def W8 (sub:Bool) (g:Orc):Orc:=⟨fun args s=>match args with
 | [x,y,.int .u64 (.ofNat z)]=>sel (Zhv (Xx x y)) (V.ret s (sel sub (ZiD z (Xx x y)) (ZiC z (Xx x y)))) (g.run args s)
 | args=>g.run args s⟩
structure Names where
 join:FuncId
 add:FuncId
 Za7:FuncId
 Za8:FuncId
 Za9:FuncId
 Zba:FuncId
 clone:FuncId
 Ff:FuncId
 Fg:FuncId
 Fh:FuncId
 Zbb:FuncId
def ZiE (P:Program) (N:Names) (Zi:FuncId→YW) (fn:FuncId→Func):List (Nat×Orc) :=
 [(N.join,Za2),(N.add,Zdb P ⟨N.add,3,13,12,DY⟩ (Zi N.add) (fn N.add)),(N.Za7,Sn N.Za8),(N.Za9,Bl N.Zba),(N.clone,Hc),(N.Ff,W8 false (W7 P (fn N.Ff))),(N.Fg,W8 true (W7 P (fn N.Fg))),(N.Fh,W7 P (fn N.Fh)),(N.Zbb,Zdj)]
end
end Go.Proofs.YtheflbaejhlboaaGreatDoor.Ev
namespace Go.Proofs.YtheflbaejhlboaaGreatDoor.Ev
open Go Go.Proofs
section
noncomputable def fnT:Tr Func:=(.nd (some Tryz.f0) (.nd (some Tryz.f1) (.nd (some Tryz.f3) (.nd (some Tryz.f7) (.nd (some Tryz.f15) (.nd (some Tryz.f31) (.nd (some Tryz.f63) (.nd (some Tryz.f127) (.nd (some Tryz.f255) (.nd (some Tryz.f511) .lf .lf) .lf) (.nd (some Tryz.f383) (.nd (some Tryz.f639) .lf .lf) .lf)) (.nd (some Tryz.f191) (.nd (some Tryz.f319) (.nd (some Tryz.f575) .lf .lf) .lf) (.nd (some Tryz.f447) .lf .lf))) (.nd (some Tryz.f95) (.nd (some Tryz.f159) (.nd (some Tryz.f287) (.nd (some Tryz.f543) .lf .lf) .lf) (.nd (some Tryz.f415) (.nd (some Tryz.f671) .lf .lf) .lf)) (.nd (some Tryz.f223) (.nd (some Tryz.f351) (.nd (some Tryz.f607) .lf .lf) .lf) (.nd (some Tryz.f479) .lf .lf)))) (.nd (some Tryz.f47) (.nd (some Tryz.f79) (.nd (some Tryz.f143) (.nd (some Tryz.f271) (.nd (some Tryz.f527) .lf .lf) .lf) (.nd (some Tryz.f399) (.nd (some Tryz.f655) .lf .lf) .lf)) (.nd (some Tryz.f207) (.nd (some Tryz.f335) (.nd (some Tryz.f591) .lf .lf) .lf) (.nd (some Tryz.f463) .lf .lf))) (.nd (some Tryz.f111) (.nd (some Tryz.f175) (.nd (some Tryz.f303) (.nd (some Tryz.f559) .lf .lf) .lf) (.nd (some Tryz.f431) .lf .lf)) (.nd (some Tryz.f239) (.nd (some Tryz.f367) (.nd (some Tryz.f623) .lf .lf) .lf) (.nd (some Tryz.f495) .lf .lf))))) (.nd (some Tryz.f23) (.nd (some Tryz.f39) (.nd (some Tryz.f71) (.nd (some Tryz.f135) (.nd (some Tryz.f263) (.nd (some Tryz.f519) .lf .lf) .lf) (.nd (some Tryz.f391) (.nd (some Tryz.f647) .lf .lf) .lf)) (.nd (some Tryz.f199) (.nd (some Tryz.f327) (.nd (some Tryz.f583) .lf .lf) .lf) (.nd (some Tryz.f455) .lf .lf))) (.nd (some Tryz.f103) (.nd (some Tryz.f167) (.nd (some Tryz.f295) (.nd (some Tryz.f551) .lf .lf) .lf) (.nd (some Tryz.f423) .lf .lf)) (.nd (some Tryz.f231) (.nd (some Tryz.f359) (.nd (some Tryz.f615) .lf .lf) .lf) (.nd (some Tryz.f487) .lf .lf)))) (.nd (some Tryz.f55) (.nd (some Tryz.f87) (.nd (some Tryz.f151) (.nd (some Tryz.f279) (.nd (some Tryz.f535) .lf .lf) .lf) (.nd (some Tryz.f407) (.nd (some Tryz.f663) .lf .lf) .lf)) (.nd (some Tryz.f215) (.nd (some Tryz.f343) (.nd (some Tryz.f599) .lf .lf) .lf) (.nd (some Tryz.f471) .lf .lf))) (.nd (some Tryz.f119) (.nd (some Tryz.f183) (.nd (some Tryz.f311) (.nd (some Tryz.f567) .lf .lf) .lf) (.nd (some Tryz.f439) .lf .lf)) (.nd (some Tryz.f247) (.nd (some Tryz.f375) (.nd (some Tryz.f631) .lf .lf) .lf) (.nd (some Tryz.f503) .lf .lf)))))) (.nd (some Tryz.f11) (.nd (some Tryz.f19) (.nd (some Tryz.f35) (.nd (some Tryz.f67) (.nd (some Tryz.f131) (.nd (some Tryz.f259) (.nd (some Tryz.f515) .lf .lf) .lf) (.nd (some Tryz.f387) (.nd (some Tryz.f643) .lf .lf) .lf)) (.nd (some Tryz.f195) (.nd (some Tryz.f323) (.nd (some Tryz.f579) .lf .lf) .lf) (.nd (some Tryz.f451) .lf .lf))) (.nd (some Tryz.f99) (.nd (some Tryz.f163) (.nd (some Tryz.f291) (.nd (some Tryz.f547) .lf .lf) .lf) (.nd (some Tryz.f419) (.nd (some Tryz.f675) .lf .lf) .lf)) (.nd (some Tryz.f227) (.nd (some Tryz.f355) (.nd (some Tryz.f611) .lf .lf) .lf) (.nd (some Tryz.f483) .lf .lf)))) (.nd (some Tryz.f51) (.nd (some Tryz.f83) (.nd (some Tryz.f147) (.nd (some Tryz.f275) (.nd (some Tryz.f531) .lf .lf) .lf) (.nd (some Tryz.f403) (.nd (some Tryz.f659) .lf .lf) .lf)) (.nd (some Tryz.f211) (.nd (some Tryz.f339) (.nd (some Tryz.f595) .lf .lf) .lf) (.nd (some Tryz.f467) .lf .lf))) (.nd (some Tryz.f115) (.nd (some Tryz.f179) (.nd (some Tryz.f307) (.nd (some Tryz.f563) .lf .lf) .lf) (.nd (some Tryz.f435) .lf .lf)) (.nd (some Tryz.f243) (.nd (some Tryz.f371) (.nd (some Tryz.f627) .lf .lf) .lf) (.nd (some Tryz.f499) .lf .lf))))) (.nd (some Tryz.f27) (.nd (some Tryz.f43) (.nd (some Tryz.f75) (.nd (some Tryz.f139) (.nd (some Tryz.f267) (.nd (some Tryz.f523) .lf .lf) .lf) (.nd (some Tryz.f395) (.nd (some Tryz.f651) .lf .lf) .lf)) (.nd (some Tryz.f203) (.nd (some Tryz.f331) (.nd (some Tryz.f587) .lf .lf) .lf) (.nd (some Tryz.f459) .lf .lf))) (.nd (some Tryz.f107) (.nd (some Tryz.f171) (.nd (some Tryz.f299) (.nd (some Tryz.f555) .lf .lf) .lf) (.nd (some Tryz.f427) .lf .lf)) (.nd (some Tryz.f235) (.nd (some Tryz.f363) (.nd (some Tryz.f619) .lf .lf) .lf) (.nd (some Tryz.f491) .lf .lf)))) (.nd (some Tryz.f59) (.nd (some Tryz.f91) (.nd (some Tryz.f155) (.nd (some Tryz.f283) (.nd (some Tryz.f539) .lf .lf) .lf) (.nd (some Tryz.f411) (.nd (some Tryz.f667) .lf .lf) .lf)) (.nd (some Tryz.f219) (.nd (some Tryz.f347) (.nd (some Tryz.f603) .lf .lf) .lf) (.nd (some Tryz.f475) .lf .lf))) (.nd (some Tryz.f123) (.nd (some Tryz.f187) (.nd (some Tryz.f315) (.nd (some Tryz.f571) .lf .lf) .lf) (.nd (some Tryz.f443) .lf .lf)) (.nd (some Tryz.f251) (.nd (some Tryz.f379) (.nd (some Tryz.f635) .lf .lf) .lf) (.nd (some Tryz.f507) .lf .lf))))))) (.nd (some Tryz.f5) (.nd (some Tryz.f9) (.nd (some Tryz.f17) (.nd (some Tryz.f33) (.nd (some Tryz.f65) (.nd (some Tryz.f129) (.nd (some Tryz.f257) (.nd (some Tryz.f513) .lf .lf) .lf) (.nd (some Tryz.f385) (.nd (some Tryz.f641) .lf .lf) .lf)) (.nd (some Tryz.f193) (.nd (some Tryz.f321) (.nd (some Tryz.f577) .lf .lf) .lf) (.nd (some Tryz.f449) .lf .lf))) (.nd (some Tryz.f97) (.nd (some Tryz.f161) (.nd (some Tryz.f289) (.nd (some Tryz.f545) .lf .lf) .lf) (.nd (some Tryz.f417) (.nd (some Tryz.f673) .lf .lf) .lf)) (.nd (some Tryz.f225) (.nd (some Tryz.f353) (.nd (some Tryz.f609) .lf .lf) .lf) (.nd (some Tryz.f481) .lf .lf)))) (.nd (some Tryz.f49) (.nd (some Tryz.f81) (.nd (some Tryz.f145) (.nd (some Tryz.f273) (.nd (some Tryz.f529) .lf .lf) .lf) (.nd (some Tryz.f401) (.nd (some Tryz.f657) .lf .lf) .lf)) (.nd (some Tryz.f209) (.nd (some Tryz.f337) (.nd (some Tryz.f593) .lf .lf) .lf) (.nd (some Tryz.f465) .lf .lf))) (.nd (some Tryz.f113) (.nd (some Tryz.f177) (.nd (some Tryz.f305) (.nd (some Tryz.f561) .lf .lf) .lf) (.nd (some Tryz.f433) .lf .lf)) (.nd (some Tryz.f241) (.nd (some Tryz.f369) (.nd (some Tryz.f625) .lf .lf) .lf) (.nd (some Tryz.f497) .lf .lf))))) (.nd (some Tryz.f25) (.nd (some Tryz.f41) (.nd (some Tryz.f73) (.nd (some Tryz.f137) (.nd (some Tryz.f265) (.nd (some Tryz.f521) .lf .lf) .lf) (.nd (some Tryz.f393) (.nd (some Tryz.f649) .lf .lf) .lf)) (.nd (some Tryz.f201) (.nd (some Tryz.f329) (.nd (some Tryz.f585) .lf .lf) .lf) (.nd (some Tryz.f457) .lf .lf))) (.nd (some Tryz.f105) (.nd (some Tryz.f169) (.nd (some Tryz.f297) (.nd (some Tryz.f553) .lf .lf) .lf) (.nd (some Tryz.f425) .lf .lf)) (.nd (some Tryz.f233) (.nd (some Tryz.f361) (.nd (some Tryz.f617) .lf .lf) .lf) (.nd (some Tryz.f489) .lf .lf)))) (.nd (some Tryz.f57) (.nd (some Tryz.f89) (.nd (some Tryz.f153) (.nd (some Tryz.f281) (.nd (some Tryz.f537) .lf .lf) .lf) (.nd (some Tryz.f409) (.nd (some Tryz.f665) .lf .lf) .lf)) (.nd (some Tryz.f217) (.nd (some Tryz.f345) (.nd (some Tryz.f601) .lf .lf) .lf) (.nd (some Tryz.f473) .lf .lf))) (.nd (some Tryz.f121) (.nd (some Tryz.f185) (.nd (some Tryz.f313) (.nd (some Tryz.f569) .lf .lf) .lf) (.nd (some Tryz.f441) .lf .lf)) (.nd (some Tryz.f249) (.nd (some Tryz.f377) (.nd (some Tryz.f633) .lf .lf) .lf) (.nd (some Tryz.f505) .lf .lf)))))) (.nd (some Tryz.f13) (.nd (some Tryz.f21) (.nd (some Tryz.f37) (.nd (some Tryz.f69) (.nd (some Tryz.f133) (.nd (some Tryz.f261) (.nd (some Tryz.f517) .lf .lf) .lf) (.nd (some Tryz.f389) (.nd (some Tryz.f645) .lf .lf) .lf)) (.nd (some Tryz.f197) (.nd (some Tryz.f325) (.nd (some Tryz.f581) .lf .lf) .lf) (.nd (some Tryz.f453) .lf .lf))) (.nd (some Tryz.f101) (.nd (some Tryz.f165) (.nd (some Tryz.f293) (.nd (some Tryz.f549) .lf .lf) .lf) (.nd (some Tryz.f421) .lf .lf)) (.nd (some Tryz.f229) (.nd (some Tryz.f357) (.nd (some Tryz.f613) .lf .lf) .lf) (.nd (some Tryz.f485) .lf .lf)))) (.nd (some Tryz.f53) (.nd (some Tryz.f85) (.nd (some Tryz.f149) (.nd (some Tryz.f277) (.nd (some Tryz.f533) .lf .lf) .lf) (.nd (some Tryz.f405) (.nd (some Tryz.f661) .lf .lf) .lf)) (.nd (some Tryz.f213) (.nd (some Tryz.f341) (.nd (some Tryz.f597) .lf .lf) .lf) (.nd (some Tryz.f469) .lf .lf))) (.nd (some Tryz.f117) (.nd (some Tryz.f181) (.nd (some Tryz.f309) (.nd (some Tryz.f565) .lf .lf) .lf) (.nd (some Tryz.f437) .lf .lf)) (.nd (some Tryz.f245) (.nd (some Tryz.f373) (.nd (some Tryz.f629) .lf .lf) .lf) (.nd (some Tryz.f501) .lf .lf))))) (.nd (some Tryz.f29) (.nd (some Tryz.f45) (.nd (some Tryz.f77) (.nd (some Tryz.f141) (.nd (some Tryz.f269) (.nd (some Tryz.f525) .lf .lf) .lf) (.nd (some Tryz.f397) (.nd (some Tryz.f653) .lf .lf) .lf)) (.nd (some Tryz.f205) (.nd (some Tryz.f333) (.nd (some Tryz.f589) .lf .lf) .lf) (.nd (some Tryz.f461) .lf .lf))) (.nd (some Tryz.f109) (.nd (some Tryz.f173) (.nd (some Tryz.f301) (.nd (some Tryz.f557) .lf .lf) .lf) (.nd (some Tryz.f429) .lf .lf)) (.nd (some Tryz.f237) (.nd (some Tryz.f365) (.nd (some Tryz.f621) .lf .lf) .lf) (.nd (some Tryz.f493) .lf .lf)))) (.nd (some Tryz.f61) (.nd (some Tryz.f93) (.nd (some Tryz.f157) (.nd (some Tryz.f285) (.nd (some Tryz.f541) .lf .lf) .lf) (.nd (some Tryz.f413) (.nd (some Tryz.f669) .lf .lf) .lf)) (.nd (some Tryz.f221) (.nd (some Tryz.f349) (.nd (some Tryz.f605) .lf .lf) .lf) (.nd (some Tryz.f477) .lf .lf))) (.nd (some Tryz.f125) (.nd (some Tryz.f189) (.nd (some Tryz.f317) (.nd (some Tryz.f573) .lf .lf) .lf) (.nd (some Tryz.f445) .lf .lf)) (.nd (some Tryz.f253) (.nd (some Tryz.f381) (.nd (some Tryz.f637) .lf .lf) .lf) (.nd (some Tryz.f509) .lf .lf)))))))) (.nd (some Tryz.f2) (.nd (some Tryz.f4) (.nd (some Tryz.f8) (.nd (some Tryz.f16) (.nd (some Tryz.f32) (.nd (some Tryz.f64) (.nd (some Tryz.f128) (.nd (some Tryz.f256) (.nd (some Tryz.f512) .lf .lf) .lf) (.nd (some Tryz.f384) (.nd (some Tryz.f640) .lf .lf) .lf)) (.nd (some Tryz.f192) (.nd (some Tryz.f320) (.nd (some Tryz.f576) .lf .lf) .lf) (.nd (some Tryz.f448) .lf .lf))) (.nd (some Tryz.f96) (.nd (some Tryz.f160) (.nd (some Tryz.f288) (.nd (some Tryz.f544) .lf .lf) .lf) (.nd (some Tryz.f416) (.nd (some Tryz.f672) .lf .lf) .lf)) (.nd (some Tryz.f224) (.nd (some Tryz.f352) (.nd (some Tryz.f608) .lf .lf) .lf) (.nd (some Tryz.f480) .lf .lf)))) (.nd (some Tryz.f48) (.nd (some Tryz.f80) (.nd (some Tryz.f144) (.nd (some Tryz.f272) (.nd (some Tryz.f528) .lf .lf) .lf) (.nd (some Tryz.f400) (.nd (some Tryz.f656) .lf .lf) .lf)) (.nd (some Tryz.f208) (.nd (some Tryz.f336) (.nd (some Tryz.f592) .lf .lf) .lf) (.nd (some Tryz.f464) .lf .lf))) (.nd (some Tryz.f112) (.nd (some Tryz.f176) (.nd (some Tryz.f304) (.nd (some Tryz.f560) .lf .lf) .lf) (.nd (some Tryz.f432) .lf .lf)) (.nd (some Tryz.f240) (.nd (some Tryz.f368) (.nd (some Tryz.f624) .lf .lf) .lf) (.nd (some Tryz.f496) .lf .lf))))) (.nd (some Tryz.f24) (.nd (some Tryz.f40) (.nd (some Tryz.f72) (.nd (some Tryz.f136) (.nd (some Tryz.f264) (.nd (some Tryz.f520) .lf .lf) .lf) (.nd (some Tryz.f392) (.nd (some Tryz.f648) .lf .lf) .lf)) (.nd (some Tryz.f200) (.nd (some Tryz.f328) (.nd (some Tryz.f584) .lf .lf) .lf) (.nd (some Tryz.f456) .lf .lf))) (.nd (some Tryz.f104) (.nd (some Tryz.f168) (.nd (some Tryz.f296) (.nd (some Tryz.f552) .lf .lf) .lf) (.nd (some Tryz.f424) .lf .lf)) (.nd (some Tryz.f232) (.nd (some Tryz.f360) (.nd (some Tryz.f616) .lf .lf) .lf) (.nd (some Tryz.f488) .lf .lf)))) (.nd (some Tryz.f56) (.nd (some Tryz.f88) (.nd (some Tryz.f152) (.nd (some Tryz.f280) (.nd (some Tryz.f536) .lf .lf) .lf) (.nd (some Tryz.f408) (.nd (some Tryz.f664) .lf .lf) .lf)) (.nd (some Tryz.f216) (.nd (some Tryz.f344) (.nd (some Tryz.f600) .lf .lf) .lf) (.nd (some Tryz.f472) .lf .lf))) (.nd (some Tryz.f120) (.nd (some Tryz.f184) (.nd (some Tryz.f312) (.nd (some Tryz.f568) .lf .lf) .lf) (.nd (some Tryz.f440) .lf .lf)) (.nd (some Tryz.f248) (.nd (some Tryz.f376) (.nd (some Tryz.f632) .lf .lf) .lf) (.nd (some Tryz.f504) .lf .lf)))))) (.nd (some Tryz.f12) (.nd (some Tryz.f20) (.nd (some Tryz.f36) (.nd (some Tryz.f68) (.nd (some Tryz.f132) (.nd (some Tryz.f260) (.nd (some Tryz.f516) .lf .lf) .lf) (.nd (some Tryz.f388) (.nd (some Tryz.f644) .lf .lf) .lf)) (.nd (some Tryz.f196) (.nd (some Tryz.f324) (.nd (some Tryz.f580) .lf .lf) .lf) (.nd (some Tryz.f452) .lf .lf))) (.nd (some Tryz.f100) (.nd (some Tryz.f164) (.nd (some Tryz.f292) (.nd (some Tryz.f548) .lf .lf) .lf) (.nd (some Tryz.f420) (.nd (some Tryz.f676) .lf .lf) .lf)) (.nd (some Tryz.f228) (.nd (some Tryz.f356) (.nd (some Tryz.f612) .lf .lf) .lf) (.nd (some Tryz.f484) .lf .lf)))) (.nd (some Tryz.f52) (.nd (some Tryz.f84) (.nd (some Tryz.f148) (.nd (some Tryz.f276) (.nd (some Tryz.f532) .lf .lf) .lf) (.nd (some Tryz.f404) (.nd (some Tryz.f660) .lf .lf) .lf)) (.nd (some Tryz.f212) (.nd (some Tryz.f340) (.nd (some Tryz.f596) .lf .lf) .lf) (.nd (some Tryz.f468) .lf .lf))) (.nd (some Tryz.f116) (.nd (some Tryz.f180) (.nd (some Tryz.f308) (.nd (some Tryz.f564) .lf .lf) .lf) (.nd (some Tryz.f436) .lf .lf)) (.nd (some Tryz.f244) (.nd (some Tryz.f372) (.nd (some Tryz.f628) .lf .lf) .lf) (.nd (some Tryz.f500) .lf .lf))))) (.nd (some Tryz.f28) (.nd (some Tryz.f44) (.nd (some Tryz.f76) (.nd (some Tryz.f140) (.nd (some Tryz.f268) (.nd (some Tryz.f524) .lf .lf) .lf) (.nd (some Tryz.f396) (.nd (some Tryz.f652) .lf .lf) .lf)) (.nd (some Tryz.f204) (.nd (some Tryz.f332) (.nd (some Tryz.f588) .lf .lf) .lf) (.nd (some Tryz.f460) .lf .lf))) (.nd (some Tryz.f108) (.nd (some Tryz.f172) (.nd (some Tryz.f300) (.nd (some Tryz.f556) .lf .lf) .lf) (.nd (some Tryz.f428) .lf .lf)) (.nd (some Tryz.f236) (.nd (some Tryz.f364) (.nd (some Tryz.f620) .lf .lf) .lf) (.nd (some Tryz.f492) .lf .lf)))) (.nd (some Tryz.f60) (.nd (some Tryz.f92) (.nd (some Tryz.f156) (.nd (some Tryz.f284) (.nd (some Tryz.f540) .lf .lf) .lf) (.nd (some Tryz.f412) (.nd (some Tryz.f668) .lf .lf) .lf)) (.nd (some Tryz.f220) (.nd (some Tryz.f348) (.nd (some Tryz.f604) .lf .lf) .lf) (.nd (some Tryz.f476) .lf .lf))) (.nd (some Tryz.f124) (.nd (some Tryz.f188) (.nd (some Tryz.f316) (.nd (some Tryz.f572) .lf .lf) .lf) (.nd (some Tryz.f444) .lf .lf)) (.nd (some Tryz.f252) (.nd (some Tryz.f380) (.nd (some Tryz.f636) .lf .lf) .lf) (.nd (some Tryz.f508) .lf .lf))))))) (.nd (some Tryz.f6) (.nd (some Tryz.f10) (.nd (some Tryz.f18) (.nd (some Tryz.f34) (.nd (some Tryz.f66) (.nd (some Tryz.f130) (.nd (some Tryz.f258) (.nd (some Tryz.f514) .lf .lf) .lf) (.nd (some Tryz.f386) (.nd (some Tryz.f642) .lf .lf) .lf)) (.nd (some Tryz.f194) (.nd (some Tryz.f322) (.nd (some Tryz.f578) .lf .lf) .lf) (.nd (some Tryz.f450) .lf .lf))) (.nd (some Tryz.f98) (.nd (some Tryz.f162) (.nd (some Tryz.f290) (.nd (some Tryz.f546) .lf .lf) .lf) (.nd (some Tryz.f418) (.nd (some Tryz.f674) .lf .lf) .lf)) (.nd (some Tryz.f226) (.nd (some Tryz.f354) (.nd (some Tryz.f610) .lf .lf) .lf) (.nd (some Tryz.f482) .lf .lf)))) (.nd (some Tryz.f50) (.nd (some Tryz.f82) (.nd (some Tryz.f146) (.nd (some Tryz.f274) (.nd (some Tryz.f530) .lf .lf) .lf) (.nd (some Tryz.f402) (.nd (some Tryz.f658) .lf .lf) .lf)) (.nd (some Tryz.f210) (.nd (some Tryz.f338) (.nd (some Tryz.f594) .lf .lf) .lf) (.nd (some Tryz.f466) .lf .lf))) (.nd (some Tryz.f114) (.nd (some Tryz.f178) (.nd (some Tryz.f306) (.nd (some Tryz.f562) .lf .lf) .lf) (.nd (some Tryz.f434) .lf .lf)) (.nd (some Tryz.f242) (.nd (some Tryz.f370) (.nd (some Tryz.f626) .lf .lf) .lf) (.nd (some Tryz.f498) .lf .lf))))) (.nd (some Tryz.f26) (.nd (some Tryz.f42) (.nd (some Tryz.f74) (.nd (some Tryz.f138) (.nd (some Tryz.f266) (.nd (some Tryz.f522) .lf .lf) .lf) (.nd (some Tryz.f394) (.nd (some Tryz.f650) .lf .lf) .lf)) (.nd (some Tryz.f202) (.nd (some Tryz.f330) (.nd (some Tryz.f586) .lf .lf) .lf) (.nd (some Tryz.f458) .lf .lf))) (.nd (some Tryz.f106) (.nd (some Tryz.f170) (.nd (some Tryz.f298) (.nd (some Tryz.f554) .lf .lf) .lf) (.nd (some Tryz.f426) .lf .lf)) (.nd (some Tryz.f234) (.nd (some Tryz.f362) (.nd (some Tryz.f618) .lf .lf) .lf) (.nd (some Tryz.f490) .lf .lf)))) (.nd (some Tryz.f58) (.nd (some Tryz.f90) (.nd (some Tryz.f154) (.nd (some Tryz.f282) (.nd (some Tryz.f538) .lf .lf) .lf) (.nd (some Tryz.f410) (.nd (some Tryz.f666) .lf .lf) .lf)) (.nd (some Tryz.f218) (.nd (some Tryz.f346) (.nd (some Tryz.f602) .lf .lf) .lf) (.nd (some Tryz.f474) .lf .lf))) (.nd (some Tryz.f122) (.nd (some Tryz.f186) (.nd (some Tryz.f314) (.nd (some Tryz.f570) .lf .lf) .lf) (.nd (some Tryz.f442) .lf .lf)) (.nd (some Tryz.f250) (.nd (some Tryz.f378) (.nd (some Tryz.f634) .lf .lf) .lf) (.nd (some Tryz.f506) .lf .lf)))))) (.nd (some Tryz.f14) (.nd (some Tryz.f22) (.nd (some Tryz.f38) (.nd (some Tryz.f70) (.nd (some Tryz.f134) (.nd (some Tryz.f262) (.nd (some Tryz.f518) .lf .lf) .lf) (.nd (some Tryz.f390) (.nd (some Tryz.f646) .lf .lf) .lf)) (.nd (some Tryz.f198) (.nd (some Tryz.f326) (.nd (some Tryz.f582) .lf .lf) .lf) (.nd (some Tryz.f454) .lf .lf))) (.nd (some Tryz.f102) (.nd (some Tryz.f166) (.nd (some Tryz.f294) (.nd (some Tryz.f550) .lf .lf) .lf) (.nd (some Tryz.f422) .lf .lf)) (.nd (some Tryz.f230) (.nd (some Tryz.f358) (.nd (some Tryz.f614) .lf .lf) .lf) (.nd (some Tryz.f486) .lf .lf)))) (.nd (some Tryz.f54) (.nd (some Tryz.f86) (.nd (some Tryz.f150) (.nd (some Tryz.f278) (.nd (some Tryz.f534) .lf .lf) .lf) (.nd (some Tryz.f406) (.nd (some Tryz.f662) .lf .lf) .lf)) (.nd (some Tryz.f214) (.nd (some Tryz.f342) (.nd (some Tryz.f598) .lf .lf) .lf) (.nd (some Tryz.f470) .lf .lf))) (.nd (some Tryz.f118) (.nd (some Tryz.f182) (.nd (some Tryz.f310) (.nd (some Tryz.f566) .lf .lf) .lf) (.nd (some Tryz.f438) .lf .lf)) (.nd (some Tryz.f246) (.nd (some Tryz.f374) (.nd (some Tryz.f630) .lf .lf) .lf) (.nd (some Tryz.f502) .lf .lf))))) (.nd (some Tryz.f30) (.nd (some Tryz.f46) (.nd (some Tryz.f78) (.nd (some Tryz.f142) (.nd (some Tryz.f270) (.nd (some Tryz.f526) .lf .lf) .lf) (.nd (some Tryz.f398) (.nd (some Tryz.f654) .lf .lf) .lf)) (.nd (some Tryz.f206) (.nd (some Tryz.f334) (.nd (some Tryz.f590) .lf .lf) .lf) (.nd (some Tryz.f462) .lf .lf))) (.nd (some Tryz.f110) (.nd (some Tryz.f174) (.nd (some Tryz.f302) (.nd (some Tryz.f558) .lf .lf) .lf) (.nd (some Tryz.f430) .lf .lf)) (.nd (some Tryz.f238) (.nd (some Tryz.f366) (.nd (some Tryz.f622) .lf .lf) .lf) (.nd (some Tryz.f494) .lf .lf)))) (.nd (some Tryz.f62) (.nd (some Tryz.f94) (.nd (some Tryz.f158) (.nd (some Tryz.f286) (.nd (some Tryz.f542) .lf .lf) .lf) (.nd (some Tryz.f414) (.nd (some Tryz.f670) .lf .lf) .lf)) (.nd (some Tryz.f222) (.nd (some Tryz.f350) (.nd (some Tryz.f606) .lf .lf) .lf) (.nd (some Tryz.f478) .lf .lf))) (.nd (some Tryz.f126) (.nd (some Tryz.f190) (.nd (some Tryz.f318) (.nd (some Tryz.f574) .lf .lf) .lf) (.nd (some Tryz.f446) .lf .lf)) (.nd (some Tryz.f254) (.nd (some Tryz.f382) (.nd (some Tryz.f638) .lf .lf) .lf) (.nd (some Tryz.f510) .lf .lf)))))))))
noncomputable def Zhy:Tr Nat:=(.nd (some 0) (.nd (some 0) (.nd (some 154742800058577713715254771) (.nd (some 5192338969047902625196513354092541) (.nd (some 16455) (.nd (some 1) (.nd (some 15) (.nd (some 144115200960774343) (.nd (some 17179886351) (.nd (some 262173) .lf .lf) .lf) (.nd (some 288231475663604767) (.nd (some 0) .lf .lf) .lf)) (.nd (some 5) (.nd (some 3) (.nd (some 1) .lf .lf) .lf) (.nd (some 34393293647) .lf .lf))) (.nd (some 21) (.nd (some 19473648520706207646500343760426935) (.nd (some 51) (.nd (some 5) .lf .lf) .lf) (.nd (some 13) (.nd (some 0) .lf .lf) .lf)) (.nd (some 271) (.nd (some 583) (.nd (some 5) .lf .lf) .lf) (.nd (some 262927) .lf .lf)))) (.nd (some 274945019847) (.nd (some 5) (.nd (some 33543) (.nd (some 1079) (.nd (some 7) .lf .lf) .lf) (.nd (some 65587) (.nd (some 0) .lf .lf) .lf)) (.nd (some 1048595) (.nd (some 5) (.nd (some 21) .lf .lf) .lf) (.nd (some 15) .lf .lf))) (.nd (some 27) (.nd (some 31) (.nd (some 65549) (.nd (some 66227) .lf .lf) .lf) (.nd (some 253) .lf .lf)) (.nd (some 5) (.nd (some 19039345727148405560307) (.nd (some 68192301) .lf .lf) .lf) (.nd (some 1031) .lf .lf))))) (.nd (some 19) (.nd (some 7951) (.nd (some 27) (.nd (some 5) (.nd (some 15) (.nd (some 8389591) .lf .lf) .lf) (.nd (some 71) (.nd (some 0) .lf .lf) .lf)) (.nd (some 2477089018242321750037658995) (.nd (some 147) (.nd (some 19) .lf .lf) .lf) (.nd (some 3) .lf .lf))) (.nd (some 7725) (.nd (some 263149) (.nd (some 567348000196595) (.nd (some 29) .lf .lf) .lf) (.nd (some 13) .lf .lf)) (.nd (some 33019) (.nd (some 19) (.nd (some 271) .lf .lf) .lf) (.nd (some 499) .lf .lf)))) (.nd (some 5) (.nd (some 123) (.nd (some 5226742140537219659672453590567247130143483) (.nd (some 19) (.nd (some 20981823) .lf .lf) .lf) (.nd (some 296683421546300851) (.nd (some 15) .lf .lf) .lf)) (.nd (some 251658285) (.nd (some 5139) (.nd (some 1333065575601045263) .lf .lf) .lf) (.nd (some 20426010943356750102455122975) .lf .lf))) (.nd (some 11417986986497897357150678644941553602512494451) (.nd (some 263149) (.nd (some 8388679) (.nd (some 3) .lf .lf) .lf) (.nd (some 37778932003695186936829) .lf .lf)) (.nd (some 613018418207004623) (.nd (some 51) (.nd (some 19023213622105999119) .lf .lf) .lf) (.nd (some 66483) .lf .lf)))))) (.nd (some 79) (.nd (some 16499) (.nd (some 525199) (.nd (some 65735) (.nd (some 13) (.nd (some 33543) (.nd (some 67615) .lf .lf) .lf) (.nd (some 21) (.nd (some 0) .lf .lf) .lf)) (.nd (some 1599) (.nd (some 5) (.nd (some 27) .lf .lf) .lf) (.nd (some 8396879) .lf .lf))) (.nd (some 8388671) (.nd (some 15) (.nd (some 21) (.nd (some 66483) .lf .lf) .lf) (.nd (some 8388723) (.nd (some 0) .lf .lf) .lf)) (.nd (some 5905590299) (.nd (some 30819) (.nd (some 77) .lf .lf) .lf) (.nd (some 5) .lf .lf)))) (.nd (some 1) (.nd (some 70368744194547) (.nd (some 277) (.nd (some 8804682991559) (.nd (some 550293734159) .lf .lf) .lf) (.nd (some 16371) (.nd (some 67108895) .lf .lf) .lf)) (.nd (some 19) (.nd (some 2147517383) (.nd (some 5) .lf .lf) .lf) (.nd (some 19) .lf .lf))) (.nd (some 66483) (.nd (some 275004779983) (.nd (some 13) (.nd (some 1114173) .lf .lf) .lf) (.nd (some 33558421) .lf .lf)) (.nd (some 15) (.nd (some 7) (.nd (some 20829169751433159) .lf .lf) .lf) (.nd (some 5) .lf .lf))))) (.nd (some 5) (.nd (some 16471) (.nd (some 19) (.nd (some 17179886351) (.nd (some 324259302153912691) (.nd (some 15395) .lf .lf) .lf) (.nd (some 18014433942971335) (.nd (some 0) .lf .lf) .lf)) (.nd (some 531) (.nd (some 18893825420109763575895) (.nd (some 21) .lf .lf) .lf) (.nd (some 7872557) .lf .lf))) (.nd (some 1005) (.nd (some 504373101) (.nd (some 1250034019870527468820103091) (.nd (some 16781263) .lf .lf) .lf) (.nd (some 63) .lf .lf)) (.nd (some 19) (.nd (some 5) (.nd (some 183) .lf .lf) .lf) (.nd (some 2097683) .lf .lf)))) (.nd (some 19) (.nd (some 0) (.nd (some 69272573) (.nd (some 21) (.nd (some 19) .lf .lf) .lf) (.nd (some 7) (.nd (some 0) .lf .lf) .lf)) (.nd (some 131229) (.nd (some 19) (.nd (some 22997644815212700899627017342834150232570911) .lf .lf) .lf) (.nd (some 140737774617843) .lf .lf))) (.nd (some 524315) (.nd (some 5) (.nd (some 3) (.nd (some 19) .lf .lf) .lf) (.nd (some 11) .lf .lf)) (.nd (some 31) (.nd (some 4612814001460592119) (.nd (some 1055) .lf .lf) .lf) (.nd (some 4835998435933849571639293) .lf .lf))))))) (.nd (some 2923047876833100597675273605429801304496593436669) (.nd (some 1) (.nd (some 19) (.nd (some 34376516039) (.nd (some 27) (.nd (some 19) (.nd (some 35218731966215) (.nd (some 4157) .lf .lf) .lf) (.nd (some 4159) (.nd (some 0) .lf .lf) .lf)) (.nd (some 2342933) (.nd (some 2067) (.nd (some 13) .lf .lf) .lf) (.nd (some 16445) .lf .lf))) (.nd (some 17729625129981) (.nd (some 5) (.nd (some 5) (.nd (some 5) .lf .lf) .lf) (.nd (some 243) (.nd (some 0) .lf .lf) .lf)) (.nd (some 525) (.nd (some 138350582614437397165) (.nd (some 5) .lf .lf) .lf) (.nd (some 17179886351) .lf .lf)))) (.nd (some 94456553174290953001971) (.nd (some 257698066803) (.nd (some 1217485249602318769183) (.nd (some 1073746119) (.nd (some 140746111846343) .lf .lf) .lf) (.nd (some 0) (.nd (some 0) .lf .lf) .lf)) (.nd (some 13) (.nd (some 34426864071) (.nd (some 0) .lf .lf) .lf) (.nd (some 147844450044442838975) .lf .lf))) (.nd (some 7981) (.nd (some 5) (.nd (some 5) (.nd (some 183) .lf .lf) .lf) (.nd (some 66037) .lf .lf)) (.nd (some 1965) (.nd (some 27) (.nd (some 1074268103) .lf .lf) .lf) (.nd (some 39) .lf .lf))))) (.nd (some 1) (.nd (some 157) (.nd (some 1080881631747358707) (.nd (some 66483) (.nd (some 15795) (.nd (some 271) .lf .lf) .lf) (.nd (some 19) (.nd (some 0) .lf .lf) .lf)) (.nd (some 1039) (.nd (some 4125) (.nd (some 71) .lf .lf) .lf) (.nd (some 11) .lf .lf))) (.nd (some 15) (.nd (some 15) (.nd (some 19) (.nd (some 4139) .lf .lf) .lf) (.nd (some 51) .lf .lf)) (.nd (some 2252933685051515) (.nd (some 0) (.nd (some 525405) .lf .lf) .lf) (.nd (some 8363) .lf .lf)))) (.nd (some 35218732335197) (.nd (some 5) (.nd (some 334511859788885004819326850109624151542083039) (.nd (some 22458641409078797123448399039441150152463) (.nd (some 594912002450663878599) .lf .lf) .lf) (.nd (some 689343567347) (.nd (some 0) .lf .lf) .lf)) (.nd (some 133005) (.nd (some 8863678612461182435707) (.nd (some 21268317252094917911888073248812900111) .lf .lf) .lf) (.nd (some 19) .lf .lf))) (.nd (some 36267774588438875241185427) (.nd (some 1) (.nd (some 1048637) (.nd (some 8223) .lf .lf) .lf) (.nd (some 68719607821) .lf .lf)) (.nd (some 39328015651735262036162423) (.nd (some 17188391667) (.nd (some 4503668346913551) .lf .lf) .lf) (.nd (some 65735) .lf .lf)))))) (.nd (some 1) (.nd (some 83) (.nd (some 14688381) (.nd (some 72568036425671) (.nd (some 2148008051) (.nd (some 1217485249602318769183) (.nd (some 15) .lf .lf) .lf) (.nd (some 51) (.nd (some 0) .lf .lf) .lf)) (.nd (some 458783) (.nd (some 83) (.nd (some 749019592093908130998168547243562859198691857383367) .lf .lf) .lf) (.nd (some 5) .lf .lf))) (.nd (some 31) (.nd (some 19) (.nd (some 4203215) (.nd (some 66483) .lf .lf) .lf) (.nd (some 11) .lf .lf)) (.nd (some 2417866393021843827065615) (.nd (some 8590917717) (.nd (some 0) .lf .lf) .lf) (.nd (some 66483) .lf .lf)))) (.nd (some 1126415370032379) (.nd (some 5) (.nd (some 3) (.nd (some 8391) (.nd (some 3) .lf .lf) .lf) (.nd (some 13) (.nd (some 271) .lf .lf) .lf)) (.nd (some 3) (.nd (some 51) (.nd (some 8592039695) .lf .lf) .lf) (.nd (some 13) .lf .lf))) (.nd (some 1298074524128170109412448986250103) (.nd (some 144185567834316787) (.nd (some 32797) (.nd (some 67124829) .lf .lf) .lf) (.nd (some 38690352926684213510420989) .lf .lf)) (.nd (some 311) (.nd (some 554176735) (.nd (some 83087207854311395603287443752634311) .lf .lf) .lf) (.nd (some 8363) .lf .lf))))) (.nd (some 1079475) (.nd (some 537399539) (.nd (some 19) (.nd (some 35218731966215) (.nd (some 7) (.nd (some 77371400029852906322661199) .lf .lf) .lf) (.nd (some 575) (.nd (some 0) .lf .lf) .lf)) (.nd (some 65543) (.nd (some 3) (.nd (some 11) .lf .lf) .lf) (.nd (some 5) .lf .lf))) (.nd (some 5) (.nd (some 37) (.nd (some 302249969765774879014387) (.nd (some 17389) .lf .lf) .lf) (.nd (some 243) .lf .lf)) (.nd (some 5) (.nd (some 524487) (.nd (some 4197407) .lf .lf) .lf) (.nd (some 31) .lf .lf)))) (.nd (some 604275) (.nd (some 66483) (.nd (some 31) (.nd (some 31) (.nd (some 0) .lf .lf) .lf) (.nd (some 16627) (.nd (some 0) .lf .lf) .lf)) (.nd (some 5) (.nd (some 3) (.nd (some 71468256854525) .lf .lf) .lf) (.nd (some 19) .lf .lf))) (.nd (some 635063844912035382370706260187) (.nd (some 5) (.nd (some 125829163) (.nd (some 7) .lf .lf) .lf) (.nd (some 37778931895942527332175) .lf .lf)) (.nd (some 16806963) (.nd (some 2061) (.nd (some 0) .lf .lf) .lf) (.nd (some 295148045916841206269) .lf .lf)))))))) (.nd (some 0) (.nd (some 19807041219438359911736550899) (.nd (some 10716901349850860173186164703109314301) (.nd (some 5) (.nd (some 1) (.nd (some 295147905181504570311) (.nd (some 2097155) (.nd (some 8592039695) (.nd (some 19) .lf .lf) .lf) (.nd (some 271) (.nd (some 0) .lf .lf) .lf)) (.nd (some 4835998443252202707386583) (.nd (some 11) (.nd (some 537399539) .lf .lf) .lf) (.nd (some 131083) .lf .lf))) (.nd (some 21) (.nd (some 1005) (.nd (some 65619) (.nd (some 13) .lf .lf) .lf) (.nd (some 31) (.nd (some 0) .lf .lf) .lf)) (.nd (some 4159) (.nd (some 15395) (.nd (some 8363) .lf .lf) .lf) (.nd (some 66483) .lf .lf)))) (.nd (some 1075) (.nd (some 8590460915) (.nd (some 21268317252094917911888073248812900111) (.nd (some 19) (.nd (some 2147484495) .lf .lf) .lf) (.nd (some 5) (.nd (some 0) .lf .lf) .lf)) (.nd (some 1039) (.nd (some 4147) (.nd (some 21) .lf .lf) .lf) (.nd (some 7) .lf .lf))) (.nd (some 51) (.nd (some 5) (.nd (some 21) (.nd (some 37) .lf .lf) .lf) (.nd (some 33019) .lf .lf)) (.nd (some 128853350703) (.nd (some 524295) (.nd (some 1073746119) .lf .lf) .lf) (.nd (some 66227) .lf .lf))))) (.nd (some 1108102087231) (.nd (some 1005) (.nd (some 65735) (.nd (some 29) (.nd (some 65549) (.nd (some 7) .lf .lf) .lf) (.nd (some 1055) (.nd (some 0) .lf .lf) .lf)) (.nd (some 590295880727449831419) (.nd (some 5) (.nd (some 71) .lf .lf) .lf) (.nd (some 33569849) .lf .lf))) (.nd (some 66483) (.nd (some 10384593871817177683247510831234831) (.nd (some 4256711) (.nd (some 36028934491488199) .lf .lf) .lf) (.nd (some 29) .lf .lf)) (.nd (some 4019) (.nd (some 0) (.nd (some 4159) .lf .lf) .lf) (.nd (some 5) .lf .lf)))) (.nd (some 563) (.nd (some 42535296023574879666274036850519702559) (.nd (some 71001209263) (.nd (some 19023213622105999119) (.nd (some 239) .lf .lf) .lf) (.nd (some 13) (.nd (some 0) .lf .lf) .lf)) (.nd (some 567412426600813) (.nd (some 65735) (.nd (some 33543) .lf .lf) .lf) (.nd (some 139293) .lf .lf))) (.nd (some 1) (.nd (some 1) (.nd (some 5497574916219) (.nd (some 19) .lf .lf) .lf) (.nd (some 967) .lf .lf)) (.nd (some 268685555) (.nd (some 5) (.nd (some 22458641409078797123448399039441150152463) .lf .lf) .lf) (.nd (some 15) .lf .lf)))))) (.nd (some 19) (.nd (some 2199023273011) (.nd (some 5) (.nd (some 5) (.nd (some 13) (.nd (some 21268317252094917911888073248812900111) (.nd (some 19) .lf .lf) .lf) (.nd (some 1) (.nd (some 0) .lf .lf) .lf)) (.nd (some 316917183598056228495340611247) (.nd (some 8592032243) (.nd (some 15) .lf .lf) .lf) (.nd (some 563637148190971) .lf .lf))) (.nd (some 19) (.nd (some 2147547251) (.nd (some 21) (.nd (some 27) .lf .lf) .lf) (.nd (some 1073742151) (.nd (some 0) .lf .lf) .lf)) (.nd (some 5) (.nd (some 1048621) (.nd (some 5) .lf .lf) .lf) (.nd (some 10141243564195130475776321258483) .lf .lf)))) (.nd (some 999) (.nd (some 21) (.nd (some 16661) (.nd (some 20829169751433159) (.nd (some 527) .lf .lf) .lf) (.nd (some 19) (.nd (some 15) .lf .lf) .lf)) (.nd (some 1) (.nd (some 199) (.nd (some 17179886351) .lf .lf) .lf) (.nd (some 21) .lf .lf))) (.nd (some 983639) (.nd (some 41539563364460844579556453984350151) (.nd (some 51) (.nd (some 2147516541) .lf .lf) .lf) (.nd (some 3) .lf .lf)) (.nd (some 15) (.nd (some 7) (.nd (some 8391) .lf .lf) .lf) (.nd (some 19) .lf .lf))))) (.nd (some 5) (.nd (some 266483) (.nd (some 15) (.nd (some 8592039695) (.nd (some 42941682370112774214571656958967) (.nd (some 5) .lf .lf) .lf) (.nd (some 277027520455) (.nd (some 0) .lf .lf) .lf)) (.nd (some 1075) (.nd (some 3) (.nd (some 21) .lf .lf) .lf) (.nd (some 131527) .lf .lf))) (.nd (some 73786994986603069947) (.nd (some 1125899906843133) (.nd (some 134344563) (.nd (some 31) .lf .lf) .lf) (.nd (some 11) .lf .lf)) (.nd (some 4398061260095) (.nd (some 5) (.nd (some 10384593871817177683247510831234831) .lf .lf) .lf) (.nd (some 17172461) .lf .lf)))) (.nd (some 31) (.nd (some 3) (.nd (some 2597416389966559543831669529624439) (.nd (some 3) (.nd (some 66483) .lf .lf) .lf) (.nd (some 537861575) (.nd (some 0) .lf .lf) .lf)) (.nd (some 288231475663604767) (.nd (some 22283071823440757529134497843) (.nd (some 35) .lf .lf) .lf) (.nd (some 4197407) .lf .lf))) (.nd (some 4547157075) (.nd (some 562984313168381) (.nd (some 3) (.nd (some 5) .lf .lf) .lf) (.nd (some 34363936607) .lf .lf)) (.nd (some 16806963) (.nd (some 83) (.nd (some 262927) .lf .lf) .lf) (.nd (some 8221) .lf .lf))))))) (.nd (some 23384070799465740799050493674393735315060334566909) (.nd (some 309239218299) (.nd (some 285) (.nd (some 38761258166635907579383291) (.nd (some 2128051) (.nd (some 5) (.nd (some 1333065575601045263) (.nd (some 2251939400122567) .lf .lf) .lf) (.nd (some 5) (.nd (some 0) .lf .lf) .lf)) (.nd (some 19) (.nd (some 3) (.nd (some 7) .lf .lf) .lf) (.nd (some 2099319) .lf .lf))) (.nd (some 33563639) (.nd (some 19) (.nd (some 19) (.nd (some 5) .lf .lf) .lf) (.nd (some 5) (.nd (some 0) .lf .lf) .lf)) (.nd (some 188895235916275734577139) (.nd (some 7213) (.nd (some 3259264009699125022261772349) .lf .lf) .lf) (.nd (some 13164839976634628298295110780136696778032692856359452003713154079) .lf .lf)))) (.nd (some 1053) (.nd (some 310712898894994471811031483) (.nd (some 22997644815212700899627017342834150232570911) (.nd (some 1074268103) (.nd (some 67109047) .lf .lf) .lf) (.nd (some 79300698068197157571487579599) (.nd (some 0) .lf .lf) .lf)) (.nd (some 27) (.nd (some 1099511694279) (.nd (some 0) .lf .lf) .lf) (.nd (some 524353) .lf .lf))) (.nd (some 66483) (.nd (some 36507352527) (.nd (some 16599) (.nd (some 42535296023574879666274036850519702559) .lf .lf) .lf) (.nd (some 8693) .lf .lf)) (.nd (some 19) (.nd (some 7) (.nd (some 8804682991559) .lf .lf) .lf) (.nd (some 11) .lf .lf))))) (.nd (some 33571891) (.nd (some 83890375) (.nd (some 7725) (.nd (some 15) (.nd (some 31159) (.nd (some 7864639) .lf .lf) .lf) (.nd (some 7) (.nd (some 0) .lf .lf) .lf)) (.nd (some 1099511629939) (.nd (some 70643890527687) (.nd (some 19) .lf .lf) .lf) (.nd (some 2067) .lf .lf))) (.nd (some 16785173) (.nd (some 737878770182063685613) (.nd (some 7859) (.nd (some 183) .lf .lf) .lf) (.nd (some 7) .lf .lf)) (.nd (some 138351151749653378483) (.nd (some 4197407) (.nd (some 261) .lf .lf) .lf) (.nd (some 9444733000992449363959) .lf .lf)))) (.nd (some 21) (.nd (some 5) (.nd (some 1031) (.nd (some 5) (.nd (some 17247509535) .lf .lf) .lf) (.nd (some 13) (.nd (some 0) .lf .lf) .lf)) (.nd (some 0) (.nd (some 8207) (.nd (some 1217485249602318769183) .lf .lf) .lf) (.nd (some 7) .lf .lf))) (.nd (some 17592186046587) (.nd (some 19) (.nd (some 51) (.nd (some 134218031) .lf .lf) .lf) (.nd (some 15) .lf .lf)) (.nd (some 1074250695) (.nd (some 17600780173423) (.nd (some 71) .lf .lf) .lf) (.nd (some 21) .lf .lf)))))) (.nd (some 19) (.nd (some 65663) (.nd (some 63923) (.nd (some 4131759593203) (.nd (some 36413) (.nd (some 22997644815212700899627017342834150232570911) (.nd (some 76265790678452481800753170495095410003421) .lf .lf) .lf) (.nd (some 4503668346913551) (.nd (some 0) .lf .lf) .lf)) (.nd (some 5) (.nd (some 118) (.nd (some 19) .lf .lf) .lf) (.nd (some 1062983) .lf .lf))) (.nd (some 278905490103) (.nd (some 540243) (.nd (some 127) (.nd (some 9440287) .lf .lf) .lf) (.nd (some 515) .lf .lf)) (.nd (some 283) (.nd (some 5) (.nd (some 288231475663604767) .lf .lf) .lf) (.nd (some 61603) .lf .lf)))) (.nd (some 19) (.nd (some 537346061) (.nd (some 2658455991608517376935233854787067901) (.nd (some 83087207854311395603287443752634311) (.nd (some 3) .lf .lf) .lf) (.nd (some 2158963) (.nd (some 15) .lf .lf) .lf)) (.nd (some 5) (.nd (some 676998458984192338506578119) (.nd (some 35218731966215) .lf .lf) .lf) (.nd (some 2923003971560093291123168138537876760321514930163) .lf .lf))) (.nd (some 4400194117677) (.nd (some 4504149398914931) (.nd (some 1035) (.nd (some 3) .lf .lf) .lf) (.nd (some 21) .lf .lf)) (.nd (some 34426910711) (.nd (some 2097283) (.nd (some 19) .lf .lf) .lf) (.nd (some 133) .lf .lf))))) (.nd (some 29) (.nd (some 15) (.nd (some 15) (.nd (some 1333065575601045263) (.nd (some 66483) (.nd (some 35218731829231) .lf .lf) .lf) (.nd (some 8405055) (.nd (some 0) .lf .lf) .lf)) (.nd (some 583) (.nd (some 21) (.nd (some 9231) .lf .lf) .lf) (.nd (some 19) .lf .lf))) (.nd (some 17596514574653) (.nd (some 15) (.nd (some 5) (.nd (some 604275) .lf .lf) .lf) (.nd (some 519) .lf .lf)) (.nd (some 5) (.nd (some 17179886579) (.nd (some 536871367) .lf .lf) .lf) (.nd (some 5) .lf .lf)))) (.nd (some 66483) (.nd (some 15) (.nd (some 42535296023574879666274036850519702559) (.nd (some 19) (.nd (some 0) .lf .lf) .lf) (.nd (some 16806963) (.nd (some 0) .lf .lf) .lf)) (.nd (some 5) (.nd (some 4723807778236704753479) (.nd (some 5) .lf .lf) .lf) (.nd (some 5) .lf .lf))) (.nd (some 17834851696765) (.nd (some 297458252888243450867) (.nd (some 268501491) (.nd (some 8211) .lf .lf) .lf) (.nd (some 1074791247) .lf .lf)) (.nd (some 1074250695) (.nd (some 38685921377829519393562399) (.nd (some 0) .lf .lf) .lf) (.nd (some 17592186291155) .lf .lf)))))))))
noncomputable def ZfC (o:Option Nat):Nat:=@Option.rec Nat (fun _=>Nat) 0 (fun m=>m) o
noncomputable def KM (f:FuncId) (t:Tmp):Bool:=Nat.testBit (ZfC (Zhy.get f)) t
noncomputable def NN:Names:={ join:=234,add:=227,Za7:=410,Za9:=606,Za8:=489,Zba:=608,clone:=401,Ff:=594,Fg:=593,Fh:=218,Zbb:=403 }
end
end Go.Proofs.YtheflbaejhlboaaGreatDoor.Ev
namespace Go.Proofs.YtheflbaejhlboaaGreatDoor.Ev
open Go Go.Proofs
set_option maxRecDepth 1000000
noncomputable def fnD (o:Option Func):Func:=match o with
 | some f=>f
 | none=>Tryz.f0
noncomputable def OL:List (Nat×Orc):=ZiE Tryz.prog NN KM fun f=>fnD (fnT.get f)
noncomputable def OT:Tr Orc:=Z0 OL .lf
noncomputable def B0:VO:={ fn:=fun f=>fnT.get f,Zi:=KM,reg:=fun _ _=>none,orc:=fun f=>OT.get f }
noncomputable def M0:FuncId→Bool:=fun _=>false
end Go.Proofs.YtheflbaejhlboaaGreatDoor.Ev
namespace Go.Proofs.YtheflbaejhlboaaGreatDoor.Ev
open Go Go.Proofs Go.Shelf
variable [Sig]
set_option maxRecDepth 100000
def ZiF (n:Nat):FuncId:=match n with
 | 156=>234
 | 165=>374
 | 166=>375
 | 169=>376
 | 240=>466
 | 241=>467
 | 276=>541
 | 277=>542
 | _=>0
def ZiG (n:Nat):TypeId:=match n with
 | 0=>0
 | 3=>3
 | 4=>4
 | 5=>5
 | 9=>9
 | 20=>20
 | 31=>67
 | 37=>326
 | 70=>526
 | 72=>528
 | 75=>530
 | 76=>531
 | 80=>271
 | 127=>608
 | 164=>664
 | _=>0
def Zhz:Ren:=⟨ZiF,ZiG,fun x=>x⟩
theorem Zez:Lays.n156 Tryz.prog Zhz where
 mixed:=by kernel_rfl
 f156:=by kernel_rfl
 f165:=by kernel_rfl
 f166:=by kernel_rfl
 f169:=by kernel_rfl
 f240:=by kernel_rfl
 f241:=by kernel_rfl
 f276:=by kernel_rfl
 f277:=by kernel_rfl
 t0:=by kernel_rfl
 a0:=fun _=>by kernel_rfl
 z0:=fun _=>by kernel_rfl
 v0:=fun _=>by kernel_rfl
 t3:=by kernel_rfl
 a3:=fun _=>by kernel_rfl
 z3:=fun _=>by kernel_rfl
 v3:=fun _=>by kernel_rfl
 t4:=by kernel_rfl
 a4:=fun _=>by kernel_rfl
 z4:=fun _=>by kernel_rfl
 v4:=fun _=>by kernel_rfl
 t9:=by kernel_rfl
 a9:=fun _=>by kernel_rfl
 z9:=fun _=>by kernel_rfl
 v9:=fun _=>by kernel_rfl
 t20:=by kernel_rfl
 a20:=fun _=>by kernel_rfl
 z20:=fun _=>by kernel_rfl
 v20:=fun _=>by kernel_rfl
 t31:=by kernel_rfl
 a31:=fun _=>by kernel_rfl
 z31:=fun _=>by kernel_rfl
 v31:=fun _=>by kernel_rfl
 t37:=by kernel_rfl
 a37:=fun _=>by kernel_rfl
 z37:=fun _=>by kernel_rfl
 v37:=fun _=>by kernel_rfl
 t70:=by kernel_rfl
 a70:=fun _=>by kernel_rfl
 z70:=fun _=>by kernel_rfl
 v70:=fun _=>by kernel_rfl
 t72:=by kernel_rfl
 a72:=fun _=>by kernel_rfl
 z72:=fun _=>by kernel_rfl
 v72:=fun _=>by kernel_rfl
 t75:=by kernel_rfl
 a75:=fun _=>by kernel_rfl
 z75:=fun _=>by kernel_rfl
 v75:=fun _=>by kernel_rfl
 t76:=by kernel_rfl
 a76:=fun _=>by kernel_rfl
 z76:=fun _=>by kernel_rfl
 v76:=fun _=>by kernel_rfl
 t127:=by kernel_rfl
 a127:=fun _=>by kernel_rfl
 z127:=fun _=>by kernel_rfl
 v127:=fun _=>by kernel_rfl
 t164:=by kernel_rfl
 a164:=fun _=>by kernel_rfl
 z164:=fun _=>by kernel_rfl
 v164:=fun _=>by kernel_rfl
theorem Zbc:Builder.Extra Tryz.prog Zhz where
 sizeBuilder:=by kernel_rfl
 liesBuilder:=by kernel_rfl
 t5:=by kernel_rfl
 a5:=fun _=>by kernel_rfl
 z5:=fun _=>by kernel_rfl
 v5:=fun _=>by kernel_rfl
 infoByte:=by kernel_rfl
 cellsByte:=by kernel_rfl
 sizeByte:=by kernel_rfl
 neB5:=by decide
theorem Fi {sep:List UInt8}:∀ {l:List Zc} {x:List UInt8},Bh sep l=some x→∃ xs:List (List UInt8),l=xs.map Zc.str∧x=Lib.join xs sep
 | [],x,h=>by cases h; exact ⟨[],rfl,rfl⟩
 | [.str b],x,h=>by cases h; exact ⟨[b],rfl,(Lib.join_one b sep).symm⟩
 | .str b::v::l,x,h=>by
  have h:(match Bh sep (v::l) with | some r=>some (b++(sep++r)) | none=>none)=some x:=h
  split at h
  ·rename_i y hy
   cases h
   obtain ⟨xs,h1,h2⟩:=Fi hy
   refine ⟨b::xs,by rw [h1]; rfl,?_⟩
   cases xs with
   | nil=>cases h1
   | cons c xs =>
    rw [h2,Lib.join_cons,Lib.join_cons]
    show _=b++((sep++c)++Lib.joinTail sep xs)
    rw [List.append_assoc]
  ·cases h
theorem VRs.strs {r:Rho}:∀ {xs:List (List UInt8)} {us:List Value},VRs r (xs.map Zc.str) us→us=xs.map fun l=>Value.string ⟨⟨l⟩⟩
 | [],_,h=>by cases h; rfl
 | x::xs,_,h=>by
  cases h with
  | cons h t=>cases h; rw [VRs.strs t]; rfl
theorem Ext.below {r:Rho} {s:St} {w w':World} (hr:Rel r s w) (h:Go.RowKit.Below w.heap.size w w'):Ext r s w r s w' :=
 (Ext.refl hr).grow h.block h.size h.os h.tape h.output
theorem D2:Z4 Tryz.prog 234 Za2:=by
 intro args s v s' h r w us hr hv
 have h:Za1 args s = .ok v s':=h
 unfold Za1 at h
 split at h
 ·cases h
  cases hv with
  | cons h1 ht =>
   cases ht with
   | cons h2 ht =>
    cases ht
    cases h1
    cases h2
    rename_i sep
    exact .inr ⟨Tryz.call234 _ _,(Any.strings_Join_none Zez Zbc none 0 ⟨⟨sep⟩⟩ w).mono fun e w' ⟨he,hw⟩=>⟨_,he,r,by subst hw; exact Ext.refl hr,.str []⟩⟩
 ·rename_i id off n c sep hne
  cases hv with
  | cons h1 ht =>
   cases ht with
   | cons h2 ht =>
    cases ht
    cases h2
    cases h1 with
    | @slice _ _ _ _ x cap hx hn hc hu =>
     unfold Zex at h
     split at h
     ·rename_i cs e o hcs
      unfold SG at h
      split at h
      ·rename_i l hl
       cases h
       unfold Zew at hl
       split at hl
       ·rename_i l' hsub
        obtain ⟨hlen,rfl⟩:=sub_eq hsub
        unfold Zhr at hl
        split at hl
        ·rename_i l2 hj
         rcases Ze hl with ⟨g1,hl⟩ | ⟨_,hl⟩
         ·rcases Ze hl with ⟨g2,hl⟩ | ⟨_,hl⟩
          ·cases hl
           obtain ⟨xs,h3,rfl⟩:=Fi hj
           obtain ⟨b,hb,hez,vs,rest,et,fr,rfl,hvs,hlen2,hop,hfz⟩:=hr.block _ _ x (ZL hcs) hx
           have hxs:xs.length=n:=by
            have:=congrArg List.length h3
            rw [List.length_map,List.length_take,List.length_drop] at this
            omega
           have hvl:=hvs.length
           have hst:=VRs.strs (h3▸(hvs.drop off).take n)
           have hdat:(xs.map fun l=>(⟨⟨l⟩⟩:ByteArray)).map (·.data.toList)=xs:=by rw [List.map_map]; exact List.map_id _
           refine .inr ⟨Tryz.call234 _ _,?_⟩
           have hc:=Any.strings_Join Zez Zbc x.blk off cap (xs.map fun l=>(⟨⟨l⟩⟩:ByteArray)) ⟨⟨sep⟩⟩ w (fun j y hy => ?_) (Array.getElem?_eq_some_iff.1 hb).1 (by rw [List.length_map]; have:=Nat.le_of_ble_eq_true g2; omega) (by rw [List.length_map]; omega)
            (by rw [hdat]; have:=Nat.le_of_ble_eq_true g1; exact Nat.le_trans this (by decide))
           ·rw [List.length_map,hxs,hdat] at hc
            exact hc.mono fun e w' ⟨he,hw⟩=>⟨_,he,r,Ext.below hr hw,.str _⟩
           ·rw [cell_of hb]
            have hjl:j<n:=by
             have:=(List.getElem?_eq_some_iff.1 hy).1
             rw [List.length_map] at this
             omega
            have h4:((vs.drop off).take n)[j]? = some (.string y):=by
             rw [hst,List.getElem?_map]
             rw [List.getElem?_map] at hy
             cases hq:xs[j]? with
             | none=>rw [hq] at hy; cases hy
             | some z=>rw [hq] at hy; cases hy; rfl
            rw [List.getElem?_take_of_lt hjl,List.getElem?_drop] at h4
            rw [List.getElem?_append_left (by omega)]
            exact h4
          ·cases hl
         ·cases hl
        ·cases hl
       ·cases hl
      ·cases h
     ·cases h
 ·cases h
end Go.Proofs.YtheflbaejhlboaaGreatDoor.Ev
