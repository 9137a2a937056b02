/- Part of a proof. -/
import Derived.Test.YtpdjhlcbcomdkaaGreatDoorT19
set_option linter.unusedVariables false
set_option linter.unusedSimpArgs false
set_option maxRecDepth 100000
set_option maxHeartbeats 16000000
open Go Go.Q Go.Qr Go.Proofs.Tryz
namespace Go.Proofs.By
open Go.RowKit Go.Proofs.Heap Go.Proofs Go.Proofs.Mem
theorem UK{P:Program}{fn:Func}{p u:Tmp}{ty:TypeId}(h:fn.results=#[.cell p ty,.tmp u])(tmps:Array Value)(w:World)(g:Nat)(t:TypeId)(cs:Array Value)(fr:Nat×Nat)(d:TypeDesc)
  (hp:tmps.getD p undef = .pointer (some ⟨g,0,none⟩)) (hg:w.heap[g]?=some (.cells cs t fr))
  (hu:P.underlying ty=some d) (hd:(match d with | .struct _ | .array _ _=>true|_=>false)=true) (hi:(P.info? ty).map (·.size)=some cs.size) :
  (results fn tmps).run P w = .ok (.tuple #[.agg cs,tmps.getD u undef]) w:=by
 exact Yt8
theorem kN{x:Nat}(h:x<256):(Ry (x%4) (decide (128≤x)) (decide (x/64%2=1))=x)↔x/4%16=0:=by
 unfold Ry;by_cases h1:128≤x <;> by_cases h2:x/64%2=1 <;> simp[h1,h2] <;> omega
theorem rB{b:List UInt8}(h:4≤b.length):b.take 4=[UInt8.ofNat (at8 b 0),UInt8.ofNat (at8 b 1),UInt8.ofNat (at8 b 2),UInt8.ofNat (at8 b 3)]:=by
 match b,h with
 | x0 :: x1 :: x2 :: x3 :: t,_=>simp[at8]
theorem kU{b:List UInt8}(h:4≤b.length):get b 2 2=at8 b 2*256+at8 b 3:=by
 match b,h with
 | x0 :: x1 :: x2 :: x3 :: t,_=>
  have hw:within (x0 :: x1 :: x2 :: x3 :: t).length 2 2=true:=within_iff.2 ⟨by decide,by decide,by decide,by simp;omega⟩;unfold get;rw[ZU hw];simp[be,at8]
theorem Ff{w:World}{v:Value}{l:List UInt8}(h:X5 w v l)(hl:0<l.length):(convert 30 9 v).run prog w = .ok (.string (str l)) w:=by
 obtain⟨g,off,cap,e,_,_,hc⟩:=AO h hl;subst e
 exact run_convert_bytes_back w _ _ 5 ⟨g,off,none⟩ cap l underlying30 underlying5 underlying9 (fun j hj=>by
  have e:(⟨g,off,none⟩:Addr).add j=⟨g,off+j,none⟩:=by unfold Addr.add;split <;> simp_all
  rw[e];exact hc j hj)
theorem Bv(v:Value)(b:List UInt8)(w:World)(hv:X5 w v b) :
  Calls prog 95 #[v] w fun e w'=>e = .returned (.tuple (Qo (Qd (Yz b).1.ZI (Yz b).1.key (Yz b).1.start (Yz b).1.frame) (Yz b).2))∧Below w w w':=by
 have HV:Hid (∀w',Below w w w'→X5 w' v b):=fun w' h=>hv.below h
 have HE:Hid (Yz b=if b.length<4 then(Tn,2)else if at8 b 0/4%16≠0∨at8 b 0%4=3∨at8 b 1≠90 then(Tn,1)else(⟨(at8 b 0%4:Nat),decide (128≤at8 b 0),decide (at8 b 0/64%2=1),get b 2 2⟩,0)):=rfl
 obtain⟨a,c,rfl,RV,uz⟩:∃a c,v = .slice a b.length c∧b.length≤c∧c≤maxLen:=by
  obtain⟨a,c,h1,h2,h3,_⟩:=id hv;exact⟨a,c,h1,h2,h3⟩
 clear hv;have Uj:=Z' w (.cells (Qd 0 false false 0) 81);have hz:=Z9 w (.cells (Qd 0 false false 0) 81);generalize hX:Yz b=X at *
 by_cases h1:b.length<4
 ·obtain rfl:X=(Tn,2):=by rw[HE.o,ZU h1]
  clear HE HV hX;have l1:decide ((b.length:Int)<4)=true:=Ww Zo;go_enter func95,ntmps95;go_wp2;exact VD (v:= .tuple (Qo (Qd 0 false false 0) 2)) (by simp[results,results95,go_sem]) rfl ⟨rfl,Uj⟩
 obtain⟨g,off,cap,e1,_,_,hc⟩:=RI (HV.o w (YI _ _)) Zo;cases e1;have HC:=Zh hc;have r0:=Xj b 0;have r1:=Xj b 1;have r2:=Xj b 2;have r3:=Xj b 3;have l1:decide ((b.length:Int)<4)=false:=Wz Zo;have i0:(0:Int)<(b.length:Int):=by omega
 have i2:(2:Int)<(b.length:Int):=by omega
 have i3:(3:Int)<(b.length:Int):=by omega
 have lG:get b 2 2=at8 b 2*256+at8 b 3:=kU Zo;obtain⟨vs,Us,-,FH⟩:=Sk (P:=prog) VG (some ⟨g,off,none⟩) b.length c 4 Zo;have hs4:∀w,(Instr.slice 30 (.slice (some ⟨g,off,none⟩) b.length c) none (some (.int .i64 4)) none).run prog w = .ok (.slice vs 4 c) w:=Us;have TW:b.take 4=[UInt8.ofNat (at8 b 0),UInt8.ofNat (at8 b 1),UInt8.ofNat (at8 b 2),UInt8.ofNat (at8 b 3)]:=rB Zo
 have Va:Hid (∀w',Below w w w'→X5 w' (.slice vs 4 c) (b.take 4)):=fun w' h=>by
  have h2:=FH w' (Rx b) Zo (by rw[Xg,Nat.mul_one]) (HV.o w' h);rw[Nat.mul_one,OH]at h2;have h3:(b.take 4).length=4:=by rw[SY];omega
  show XM w' _ _ _;rw[h3];exact h2
 rw[TW]at Va;have c0:=hc 0 Zo;have c2:=hc 2 Zo;have c3:=hc 3 Zo;rw[Z1g]at c0;rw[Z3 h1,lG]at HE;clear lG Us FH hc HC hX HV TW;generalize at8 b 0=x0 at *
 generalize at8 b 1=x1 at *
 generalize at8 b 2=x2 at *
 generalize at8 b 3=x3 at *
 have q0:IntKind.u16.wrap ((x2:Int)*256)=(x2:Int)*256:=by rw[IntKind.wrap_u16];omega
 have q2:IntKind.u16.wrap (x2:Int)=(x2:Int):=by rw[IntKind.wrap_u16];omega
 have q3:IntKind.u16.wrap (x3:Int)=(x3:Int):=by rw[IntKind.wrap_u16];omega
 obtain⟨fr,Wm⟩:∃f:Nat,f=x2*256+x3:=⟨_,rfl⟩;obtain⟨ly,iU⟩:∃l:Nat,l=x0%4:=⟨_,rfl⟩;obtain⟨ke,RX⟩:∃k:Bool,k=decide (128≤x0):=⟨_,rfl⟩;obtain⟨st,wN⟩:∃k:Bool,k=decide (x0/64%2=1):=⟨_,rfl⟩;have p1:(x0:Int).tmod 4=(ly:Int):=by rw[Int.tmod_eq_emod_of_nonneg Zo];omega
 have p1b:IntKind.i64.wrap (ly:Int)=(ly:Int):=Te _ Zo;have p2:decide ((128:Int)≤(x0:Int))=ke:=by rw[RX,Bool.eq_iff_iff,Sz,Sz];omega
 have p2b:decide (128≤x0)=ke:=RX.symm;obtain⟨y,hy⟩:∃y:Nat,y=x0/64:=⟨_,rfl⟩;have p3:IntKind.u8.wrap ((x0:Int)/64)=(y:Int):=by rw[IntKind.wrap_u8];omega
 have p4:((y:Int).tmod 2==1)=st:=by rw[wN,Bool.eq_iff_iff,beq_iff_eq,Sz,Int.tmod_eq_emod_of_nonneg Zo];omega
 have p6:IntKind.u16.wrap (fr:Int)=(fr:Int):=by rw[IntKind.wrap_u16];omega
 have p5:(x2:Int)*256+(x3:Int)=(fr:Int):=by omega
 rw[←Wm]at HE;rw[←iU,←RX,←wN]at HE;have HL:Hid (fr=x2*256+x3∧ly=x0%4∧ke=decide (128≤x0)∧st=decide (x0/64%2=1)):=⟨Wm,iU,RX,wN⟩;have hly4:ly<4:=by omega
 have hfr6:fr<65536:=by omega
 clear Wm iU RX wN hy;have ZB:Hid (∀w',Below w w w'→w'.cell? ⟨g,off,none⟩=some (.int .u8 (x0:Int))∧w'.cell? ⟨g,off+2,none⟩=some (.int .u8 (x2:Int))∧w'.cell? ⟨g,off+3,none⟩=some (.int .u8 (x3:Int))):=fun w' h=>⟨ZG c0 h,ZG c2 h,ZG c3 h⟩
 have n0:0<b.length:=by omega
 have n1:¬b.length=0:=by omega
 have n2:2<b.length:=by omega
 have n3:3<b.length:=by omega
 have n4:4≤b.length:=by omega
 clear h1;generalize b.length=N at *
 have G_:=Zh Uj;have HZ1:=Zh hz;clear c0 c2 c3 Uj hz;go_enter func95,ntmps95;go_upto_region 3 with fail
 generalize w.alloc (.cells (Qd 0 false false 0) 81)=w1 at *
 have jW:Hid (∀w',Below w1 w1 w'→w'.cell? ⟨g,off,none⟩=some (.int .u8 (x0:Int))∧w'.cell? ⟨g,off+2,none⟩=some (.int .u8 (x2:Int))∧w'.cell? ⟨g,off+3,none⟩=some (.int .u8 (x3:Int))):=fun w' h=>ZB.o _ (Tr G_ h)
 refine R5 ?_;refine Z_.Zj (d:=27) (S:=(fun w'=>w'.cell? ⟨g,off,none⟩=some (.int .u8 (x0:Int))∧w'.cell? ⟨g,off+2,none⟩=some (.int .u8 (x2:Int))∧w'.cell? ⟨g,off+3,none⟩=some (.int .u8 (x3:Int)))) Zk ?_ (fun X7=>?_)
 ·exact jW.o _ (YI _ _).drew
 refine YP 0 (h:=YP 1 (h:=YP 5 (h:=YP 6 (h:=YP 9 (h:=YP 10 (h:=YP 15 (h:=YP 16 (h:=YP 20 (h:=YP 21 (h:=YK 2 (h:=YP 3 (h:=YP 4 (h:=YK 7 (h:=YP 8 (h:=YK 11 (h:=YP 12 (h:=YP 13 (h:=YP 14 (h:=YK 17 (h:=YP 18 (h:=YP 19 (h:=YK 22 (h:=YP 23 (h:=YP 24 (h:=YP 25 (h:=?_))))))))))))))))))))))))));refine YR 26 (h:=fun K hK=>?_);go_simp;refine Z_.Y9 hK _ _ ?_ (fun XC=>?_)
 ·exact jW.o _ (by first|exact(YI _ _).drew|exact ZF (YI _ _).drew (Zw _) _)
 clear hK K;try simp only[Z_.pt]
 refine YR 27 (h:=fun K hK=>?_);go_simp;refine Z_.Yf hK _ _ Zk ?_;clear hK K;try simp only[Z_.pt]
 refine Z_.Yx Zk ?_ _;refine QZ ?_;have HK:Hid ((((w1.alloc (.cells (Qd (ly:Int) ke st (fr:Int)) 81)).drew)).heap[w1.heap.size]?=some (.cells (Qd (ly:Int) ke st (fr:Int)) 81 (0,0))):=Z9 w1 _;have HB13:Hid (Below w1 w1 (((w1.alloc (.cells (Qd (ly:Int) ke st (fr:Int)) 81)).drew))):=(Z' w1 _).drew;have rS:=Zh ((HB13.o.block _ (ZX HZ1.o)).trans HZ1.o);have WU:Hid (Below w w (((w1.alloc (.cells (Qd (ly:Int) ke st (fr:Int)) 81)).drew))):=(G_.o.trans ((Z' w1 _).mono G_.o.size)).drew;clear ZB jW X7 q0 q2 q3 i0 i2 i3 n0 n1 n2 n3 p1 p1b p2 p2b p3 p4 p5 p6 l1;go_upto_region 4 with fail
 generalize((w1.alloc (.cells (Qd (ly:Int) ke st (fr:Int)) 81)).drew)=w3 at *
 generalize w1.heap.size=K at *
 have Rv:Hid (∀w',Below w3 w3 w'→w'.rangeAt K 0 (Qd (ly:Int) ke st (fr:Int))∧Below w3 w3 w'):=fun w' hb=>⟨fun m v hm=>by rw[PW,cell_of ((hb.block _ (ZX HK.o)).trans HK.o) m];simpa using hm,hb⟩
 have HCV:Hid (∀wS,Below w3 w3 wS→(convert 30 9 (.slice vs 4 c)).run prog wS = .ok (.string (str [UInt8.ofNat x0,UInt8.ofNat x1,UInt8.ofNat x2,UInt8.ofNat x3])) wS):=fun wS h=>Ff (Va.o wS (Tr WU h)) (Nat.succ_pos _)
 have UF:Hid (∀w' d,Below w3 w3 w'→w'.heap[w.heap.size]?=some (.cells (Qd 0 false false 0) 81 (0,0))∧Below w w (w'.setRow w d)):=fun w' d h=>⟨(h.block _ (ZX rS.o)).trans rS.o,Z0 (Tr WU h) (Zw _) _⟩
 have HAB:Hid ((¬ly=3)→([UInt8.ofNat (Ry ly ke st),90,UInt8.ofNat (fr/256),UInt8.ofNat (fr%256)]=[UInt8.ofNat x0,UInt8.ofNat x1,UInt8.ofNat x2,UInt8.ofNat x3]↔x0/4%16=0∧x1=90)):=fun h3=>by
  obtain⟨e1,e2,e3,e4⟩:=HL.o;have hd:=kN r0;rw[←e2,←e3,←e4]at hd;have oh:Ry ly ke st<256:=by unfold Ry;split <;> split <;> omega
  have i1:∀a b:Nat,a<256→b<256→(UInt8.ofNat a=UInt8.ofNat b↔a=b):=fun a b ha hb=>⟨fun h=>by have h:=congrArg UInt8.toNat h;rw[UInt8.toNat_ofNat',UInt8.toNat_ofNat']at h;omega,fun h=>by rw[h]⟩
  have f1:fr/256=x2:=by omega
  have f2:fr%256=x3:=by omega
  rw[f1,f2];simp only[List.cons.injEq,and_true];rw[i1 _ _ oh r0,hd,show(90:UInt8)=UInt8.ofNat 90 from rfl,i1 _ _ Zd r1];exact⟨fun h=>⟨h.1,h.2.symm⟩,fun h=>⟨h.1,h.2.symm⟩⟩
 have hse:(str [UInt8.ofNat x0,UInt8.ofNat x1,UInt8.ofNat x2,UInt8.ofNat x3]).toList.isEmpty=false:=by rw[Rm.G8];rfl
 generalize[UInt8.ofNat x0,UInt8.ofNat x1,UInt8.ofNat x2,UInt8.ofNat x3]=lb at *
 clear Va;by_cases h3:ly=3
 ·have HX:Hid (X=(Tn,1)):=by show _=_;rw[HE.o,ZU (WB (WO h3))]
  have CP:=Zh (Az (ly:Int) (fr:Int) ke st w3.drew Zo);clear h3 HAB HE HL;have cv0:∀w:World,(convert 30 9 (.slice none 0 0)).run prog w = .ok (.string ⟨#[]⟩) w:=fun w=>by kernel_rfl
  refine R5 ?_;refine wp_region_held_drew (S:=(fun w'=>w'.rangeAt K 0 (Qd (ly:Int) ke st (fr:Int))∧Below w3 w3 w')) Zk ?_ (fun X7=>?_)
  ·exact Rv.o _ (YI _ _).drew
  refine YA 3 (h:=YA 4 (h:=?_));refine YA 0 (hy:=by intro wS Ub;refine(Xq 81 (.tmp 4) ?_ K 0 ?_ (Qd (ly:Int) ke st (fr:Int)) _ Ub.1 underlying81 rfl Zk).trans ?_;all_goals rfl) (h:=?_);refine YA 5 (hy:=by intro wS Ub;have Hi:=HCV.o wS Ub.2;(try dsimp only at Ub);(try simp only[Z_.pt]);go_simp;try with_reducible rfl) (h:=?_);refine R3 1 (h:=fun K hK=>?_);go_simp;refine CP.o.mono ?_;rintro e wA ⟨rfl,cY⟩;have Ai:=Zh ((YI w3 w3).drew.trans cY);clear cY;exact Yt5
 have Sn:=HAB.o h3;have hL4:[UInt8.ofNat (Ry ly ke st),90,UInt8.ofNat (fr/256),UInt8.ofNat (fr%256)].length=4:=rfl;have CP:=Zh (xH ly fr ke st w3.drew Zo hfr6);generalize[UInt8.ofNat (Ry ly ke st),90,UInt8.ofNat (fr/256),UInt8.ofNat (fr%256)]=la at *
 clear hse HAB HL;by_cases hq:x0/4%16≠0∨x1≠90
 ·have HX:Hid (X=(Tn,1)):=by show _=_;rw[HE.o,ZU Zo]
  have WN:¬la=lb:=by rw[Sn];omega
  have nq:((str la).toList==(str lb).toList)=false:=by rw[WM,ByteArray.toList_eq,ByteArray.toList_eq];exact WN
  clear h3 HE Sn hq WN;refine R5 ?_;refine wp_region_held_drew (S:=(fun w'=>w'.rangeAt K 0 (Qd (ly:Int) ke st (fr:Int))∧Below w3 w3 w')) Zk ?_ (fun X7=>?_)
  ·exact Rv.o _ (YI _ _).drew
  refine YA 3 (h:=YA 4 (h:=?_));refine YA 0 (hy:=by intro wS Ub;refine(Xq 81 (.tmp 4) ?_ K 0 ?_ (Qd (ly:Int) ke st (fr:Int)) _ Ub.1 underlying81 rfl Zk).trans ?_;all_goals rfl) (h:=?_);refine YA 5 (hy:=by intro wS Ub;have Hi:=HCV.o wS Ub.2;(try dsimp only at Ub);(try simp only[Z_.pt]);go_simp;try with_reducible rfl) (h:=?_);refine R3 1 (h:=fun K hK=>?_);go_simp;refine CP.o.mono ?_;rintro e wA ⟨⟨pv,rfl,ql⟩,cY⟩;have Ai:=Zh ((YI w3 w3).drew.trans cY);have cv2:=Ff (w:=wA) (v:=pv) (l:=la) (by show XM _ _ _ _;rw[hL4];exact ql.r) (by rw[hL4];decide);clear cY ql;exact Yt5
 ·have HX:Hid (X=(⟨(ly:Nat),ke,st,(fr:Nat)⟩,0)):=by show _=_;rw[HE.o,Z3 Zo]
  have hab2:la=lb:=Sn.2 Zo;subst hab2;clear h3 HE Sn hq;refine R5 ?_;refine wp_region_held_drew (S:=(fun w'=>w'.rangeAt K 0 (Qd (ly:Int) ke st (fr:Int))∧Below w3 w3 w')) Zk ?_ (fun X7=>?_)
  ·exact Rv.o _ (YI _ _).drew
  refine YA 3 (h:=YA 4 (h:=?_));refine YA 0 (hy:=by intro wS Ub;refine(Xq 81 (.tmp 4) ?_ K 0 ?_ (Qd (ly:Int) ke st (fr:Int)) _ Ub.1 underlying81 rfl Zk).trans ?_;all_goals rfl) (h:=?_);refine YA 5 (hy:=by intro wS Ub;have Hi:=HCV.o wS Ub.2;(try dsimp only at Ub);(try simp only[Z_.pt]);go_simp;try with_reducible rfl) (h:=?_);refine R3 1 (h:=fun K hK=>?_);go_simp;refine CP.o.mono ?_;rintro e wA ⟨⟨pv,rfl,ql⟩,cY⟩;have Ai:=Zh ((YI w3 w3).drew.trans cY);have cv2:=Ff (w:=wA) (v:=pv) (l:=la) (by show XM _ _ _ _;rw[hL4];exact ql.r) (by rw[hL4];decide);clear cY ql;go_wp2_with fail
  refine hK.out _ _ ?_ (fun XC=>?_)
  ·exact Rv.o _ Ai.o
  clear hK K;try simp only[Z_.pt]
  refine R3 2 (h:=fun K hK=>?_);go_simp;refine hK.out _ _ ?_ (fun Vz=>?_)
  ·exact Rv.o _ Ai.o
  clear hK K;try simp only[Z_.pt]
  refine YA 6 (h:=?_);refine YHE (h:=?_);refine QZ ?_;obtain⟨TZ,gG⟩:=UF.o wA (Qd (ly:Int) ke st (fr:Int)) Ai.o;have UH:=(Ai.o.block _ (ZX HK.o)).trans HK.o;go_wp2_with (first|(with_reducible refine Zl UH underlying81 ?_)|(with_reducible refine Zs TZ ?_))
  refine VD (v:= .tuple (Qo (Qd (ly:Int) ke st (fr:Int)) 0)) ?_ rfl ?_
  ·exact UK (p:=2) (u:=3) Zr _ _ w 81 (Qd (ly:Int) ke st (fr:Int)) (0,0) _ Zr (setRow_heap _ _ _ _ _ _ TZ) underlying81 rfl Zk
  rw[HX.o];exact⟨rfl,gG⟩
def T6(c:List UInt8)(n:Nat):List Int:=(List.range n).map fun(i:Nat)=>((get c ((4*i:Nat):Int) 4:Nat):Int)
def S_(c:List UInt8)(n:Nat):List (Int×Int):=(List.range n).map fun(i:Nat)=>(((get c ((8+4*i:Nat):Int) 2:Nat):Int),((get c (((8+4*i:Nat):Int)+2) 2:Nat):Int))
def blkR(c:List UInt8)(p:Int):oD:=⟨get c p 4,get c (p+4) 1,get c (p+5) 3,get c (p+8) 4,get c (p+12) 4,get c (p+16) 4,get c (p+20) 4⟩
def Vf(c:List UInt8)(P n:Nat):List oD:=(List.range n).map fun(i:Nat)=>blkR c ((P+24*i:Nat):Int)
def Xp(k n:Nat)(c:List UInt8):Ru:=
 if k=203 then⟨203,0,0,0,0,0,[],T6 c n,0,[]⟩
 else if k=205 then⟨205,get c 0 4,0,0,0,0,[],[],get c 4 4,S_ c n⟩
 else if k=206 then⟨206,get c 0 4,0,0,0,0,[],[],get c 4 4,[]⟩
 else if k=200 then⟨200,get c 0 4,get c 4 8,get c 12 4,get c 16 4,get c 20 4,Vf c 24 n,[],0,[]⟩
 else⟨201,get c 0 4,0,0,0,0,Vf c 4 n,[],0,[]⟩
structure GI(w w':World)(cs:List Value):Prop where
 Zf:Below w w w'
 z:w'.heap[w.heap.size]?=some (.cells Ya 173 (0,0))
 Y8:w'.heap[w.heap.size+1]?=some (.cells cs.toArray 173 (0,0))
section
variable {w w1 w2:World} {cs:List Value}
theorem GI.below(h:GI w w1 cs)(hb:Below w1 w1 w2):GI w w2 cs:=⟨h.Zf.trans (hb.mono h.Zf.size),(hb.block _ (ZX h.z)).trans h.z,(hb.block _ (ZX h.Y8)).trans h.Y8⟩
theorem GI.set(h:GI w w1 cs)(j:Nat)(u:Value):GI w (w1.setCell ⟨w.heap.size+1,j,none⟩ u) (cs.set j u):=by
 have h2:=VH h.Y8 j u;rw[List.setIfInBounds_toArray]at h2;exact⟨((Fr.Z6 Pz h.Zf).setCell (p:=⟨w.heap.size+1,j,none⟩) (WO (J_ _)) _).below,(Mg w1 ⟨w.heap.size+1,j,none⟩ u w (by show w.heap.size≠w.heap.size+1;omega)).trans h.z,h2⟩
theorem GI.grown(h:GI w w1 cs){e:TypeId}{size:Nat}{v:Value}{n:Nat}{xs:List Value}(ho:w1.ownsRow w e size v n xs)(he:173≠e)(hg:w1.grownBy w2 v.ownBlock):GI w w2 cs:=
 ⟨((Fr.Z6 Pz h.Zf).grown hg h.Zf.size (Rm.YL ho)).below,(hg.block _ (ZX h.z) (fun x=>Y7 ho he _ _ _ x.symm h.z)).trans h.z,(hg.block _ (ZX h.Y8) (fun x=>Y7 ho he _ _ _ x.symm h.Y8)).trans h.Y8⟩
theorem GI.start(w:World)(k:Nat):GI w (((w.alloc (.cells Ya 173)).alloc (.cells Ya 173)).setRow (w.heap.size+1) (Qe (k:Int) 0 0 0 0 0 none 0 0 none 0 0 0 none 0 0)) (Qe (k:Int) 0 0 0 0 0 none 0 0 none 0 0 0 none 0 0):=by
 have e1:(w.alloc (.cells Ya 173)).heap.size=w.heap.size+1:=by show(w.heap.push _).size=_;rw[Ou]
 have hz:((w.alloc (.cells Ya 173)).alloc (.cells Ya 173)).heap[w.heap.size+1]?=some (.cells Ya 173 (0,0)):=by
  have h:=Z9 (w.alloc (.cells Ya 173)) (.cells Ya 173);rw[e1]at h;exact h
 refine⟨Z0 (ZF (Z' w _) (Zw _) _) (J_ _) _,?_,setRow_heap _ _ _ _ _ _ hz⟩;rw[setRow_other _ _ _ _ Zo,(Z' (w.alloc (.cells Ya 173)) _).block _ (by rw[e1];omega)];exact Z9 w _
end
theorem Ym{P:Program}{ops:Array Oper}{o:Oper}{a:Act}{w:World}{K:Act→World→Prop}{Q:Exit→Act→World→Prop}{E':Prop}(LH:o.guard=none){t e:TypeId}{bytes:Nat}(E:Elem P t e 1 bytes)(x:Operand)(ho:o.op = .buildSlice t 1 #[(0,x)])
  (v:Value) (hx:a.eval x=v) (hv:v.cells=#[v])
  (h:K (a.put o.dst (.slice (some ⟨w,0,none⟩) 1 1)) (w.alloc (.cells #[v] e))):if Region.wanted o (yielded ops a.tmps)=true then Oper.wp P o a w K Q else E':=by
 exact Yx59
theorem Mw(b:List UInt8)(p:Int):get b p 2<65536:=by
 unfold get;split
 ·exact be_lt2 j_
 ·decide
theorem r9(b:List UInt8)(p:Int):get b p 1<256:=by
 unfold get;split
 ·have:=Ca ((b.drop p.toNat).take (1:Int).toNat);have h2:((b.drop p.toNat).take (1:Int).toNat).length≤1:=by rw[SY];omega
  exact OB this (PX (Nat.pow_le_pow_right Zd h2) Zd)
 ·decide
theorem r_(b:List UInt8)(p:Int):get b p 3<16777216:=by
 unfold get;split
 ·exact be_lt3 j_
 ·decide
theorem JG{w:World}{B:Nat}{e:TypeId}{size:Nat}{v:Value}{n:Nat}{xs:List Value}(h:w.ownsRow B e size v n xs){g:Nat}{c:Array Value}{f:Nat×Nat}(hg:w.heap[g]?=some (.cells c 173 f))(he:173≠e)(o:Nat)(u:Value):(w.setCell ⟨g,o,none⟩ u).ownsRow B e size v n xs:=
 XL h fun j hj=>by
  by_cases hjg:j=g
  ·subst hjg;exact absurd hg (Y7 h he _ _ _ hj)
  ·exact Mg w ⟨g,o,none⟩ _ j hjg
theorem rf(v:Value)(n:Nat)(c:List UInt8)(w:World)(hv:X5 w v c)(hn:n≤1000)(h0:n=0) :
  Calls prog 117 (Ja 206 (n:Int) v) w fun e w'=>(∃a,e = .returned a∧S4 w' a (Xp 206 n c))∧Below w w w':=by
 have CR:=Zh (fun(p q:Int) (w':World) (h:Below w w w')=>Re v c p q w' (hv.below h));obtain⟨ss,L9⟩:∃x:Nat,x=get c 0 4:=⟨_,rfl⟩;have jg:=Zh (fun(w':World) (h:Below w w w')=>CR.o 0 4 w' h);rw[←L9]at jg;have bss:IntKind.u32.wrap (ss:Int)=(ss:Int):=by have:=WV c 0;rw[Np];omega
 obtain⟨md,ah⟩:∃x:Nat,x=get c 4 4:=⟨_,rfl⟩;have Cmd:=Zh (fun(w':World) (h:Below w w w')=>CR.o 4 4 w' h);rw[←ah]at Cmd;have bmd:IntKind.u32.wrap (md:Int)=(md:Int):=by have:=WV c 4;rw[Np];omega
 have HX:Hid (Xp 206 n c=⟨206,(ss:Int),0,0,0,0,[],[],(md:Int),[]⟩):=by
  show _=_;unfold Xp;rw[L9,ah];simp
 generalize Xp 206 n c=X at *
 clear L9 ah;have H1:Hid (GI w (((w.alloc (.cells Ya 173)).alloc (.cells Ya 173)).setRow (w.heap.size+1) Yz6a) Yz6):=GI.start w 206
 have hz:((w.alloc (.cells Ya 173)).alloc (.cells Ya 173)).heap[w.heap.size+1]?=some (.cells Ya 173 (0,0)):=by
  exact pF
 clear hv;go_enter func117,ntmps117;go_upto_region 2 with(with_reducible refine Zs hz ?_)
 clear hz;generalize((w.alloc (.cells Ya 173)).alloc (.cells Ya 173)).setRow (w.heap.size+1) Yz6a=w1 at *
 have z1:=cell_of H1.o.Y8 1;simp only[SN,Sy,R4]at z1;have f1:=ZP H1.o.Y8 1;go_upto_region 5 with(go_at_call 118;refine(jg.o _ H1.o.Zf).mono ?_;rintro e w' ⟨rfl,rfl⟩)
 have H2:Hid (GI w (w1.setCell ⟨w.heap.size+1,1,none⟩ (.int .u32 (ss:Int))) (Qe 206 (ss:Int) 0 0 0 0 none 0 0 none 0 0 0 none 0 0)):=H1.o.set 1 (.int .u32 (ss:Int));clear z1 f1;generalize w1.setCell ⟨w.heap.size+1,1,none⟩ (.int .u32 (ss:Int))=w2 at *
 have z2:=cell_of H2.o.Y8 8;simp only[SN,Sy,R4]at z2;have f2:=ZP H2.o.Y8 8;go_upto_region 14 with(go_at_call 118;refine(Cmd.o _ H2.o.Zf).mono ?_;rintro e w' ⟨rfl,rfl⟩)
 have H3:Hid (GI w (w2.setCell ⟨w.heap.size+1,8,none⟩ (.int .u32 (md:Int))) (Qe 206 (ss:Int) 0 0 0 0 none 0 0 none 0 0 (md:Int) none 0 0)):=H2.o.set 8 (.int .u32 (md:Int));clear z2 f2;generalize w2.setCell ⟨w.heap.size+1,8,none⟩ (.int .u32 (md:Int))=w3 at *
 subst h0;go_wp2_with fail
 go_loopw [9] (fun s9 w'=>s9 = .int .i64 0∧w'=w3) (fun _ _=>0)
 case atStart=>exact⟨rfl,rfl⟩
 case round=>
  obtain⟨rfl,rfl⟩:=hrel;have TZ:=H3.o.z;have UH:=H3.o.Y8;go_wp2_with (first|(with_reducible refine Zl UH underlying173 ?_)|(with_reducible refine Zs (cells:=(Qe 206 (ss:Int) 0 0 0 0 none 0 0 none 0 0 (md:Int) none 0 0)) TZ ?_))
  refine VD (v:= .agg (Qe 206 (ss:Int) 0 0 0 0 none 0 0 none 0 0 (md:Int) none 0 0)) ?_ rfl ?_
  ·exact results_cell_row Zr _ _ w 173 (Qe 206 (ss:Int) 0 0 0 0 none 0 0 none 0 0 (md:Int) none 0 0) (0,0) _ Zr (setRow_heap _ _ _ _ _ _ TZ) underlying173 rfl X_
  refine⟨⟨_,rfl,?_⟩,Z0 H3.o.Zf (Zw _) _⟩;rw[HX.o];have hr:Ue wr ⟨⟨206,(ss:Int),0,0,0,0,[],[],(md:Int),[]⟩,.slice none 0 0,.slice none 0 0,.slice none 0 0⟩:=⟨Row.nil _ _,Row.nil _ _,Row.nil _ _⟩;have Mz:=Ue.setRow hr TZ (Qe 206 (ss:Int) 0 0 0 0 none 0 0 none 0 0 (md:Int) none 0 0);exact⟨_,_,_,rfl,Mz.b,Mz.g,Mz.p⟩
end Go.Proofs.By
