/- Part of a proof. -/
import Derived.Test.YtpdjhlcbcomdkaaGreatDoorR0R
set_option linter.unusedVariables false
set_option linter.unusedSimpArgs false
set_option maxRecDepth 100000
set_option maxHeartbeats 16000000
open Go Go.Q Go.Qr
namespace Go.Proofs.Rm
open Go.RowKit Go.Proofs.Heap Go.Proofs.Mem
theorem Ii {a b:ByteArray} (h:a=b):Ending.returned (.string a) = .returned (.string b):=by rw [h]
theorem Xw {a b:Bool} (h:a=b):Ending.returned (.bool a) = .returned (.bool b):=by rw [h]
theorem YW {k:IntKind} {a b:Int} (h:a=b):Ending.returned (.int k a) = .returned (.int k b):=by rw [h]
theorem Xn (n k:Int):VE n k=true↔1≤n∧n<k:=by unfold VE;simp
theorem Me (n k:Int) (w:World):Calls Tryz.prog 111 (Qz n k) w fun e w'=>e = .returned (.bool (VE n k))∧w=w':=by
 have hi:=Xn n k;by_cases h:1≤n
 ·have HF:Hid (VE n k=decide (n<k)):=by show _=_;unfold VE;simp [h]
  clear hi;go_enter Tryz.func111,Tryz.ntmps111;go_wp2;go_ret;exact ⟨Xw HF.o.symm,rfl⟩
 ·have HF:Hid (VE n k=false):=by show _=_;rw [KM,ne_eq,hi];omega
  clear hi;go_enter Tryz.func111,Tryz.ntmps111;go_wp2;go_ret;exact ⟨Xw HF.o.symm,rfl⟩
theorem pY (l:List UInt8):(str l).toList=[]↔l=[]:=by
 rw [toList_nil_iff_emptyBytes];constructor
 ·intro h;have:=congrArg (fun b:ByteArray=>b.data.toList) h;simpa [str] using this
 ·intro h;subst h;rfl
theorem Ik (l:List UInt8):(str l).toList.isEmpty=l.isEmpty:=by
 rw [Bool.eq_iff_iff,List.isEmpty_iff,List.isEmpty_iff,pY]
theorem Ty (b:Nat) (R:Room) (p:Int) (w:World) (hR:ZT w b R):Calls Tryz.prog 80 (Qk (some ⟨b,0,none⟩) p) w fun e w'=>e = .returned (.bool (Y_ R p))∧w=w':=by
 have C:=Zh (fun w=>Me p 9 w);by_cases hi:VE p 9=true
 ·rw [hi] at C;obtain ⟨h1,h2⟩:=(Xn p 9).1 hi;obtain ⟨n,rfl⟩:=Rf (show 0≤p by omega);have hn:n<9:=by omega
  have hc:=hR.uW hn;have HF:Hid (Y_ R n = !(str (R.names n)).toList.isEmpty):=by show _=_;unfold Y_;rw [hi,Wz,Ik,Bool.true_and]
  clear hi hR;go_enter Tryz.func80,Tryz.ntmps80;go_wp2_with (go_at_call 111;refine (C.o _).mono ?_;rintro e w' ⟨rfl,rfl⟩)
  all_goals go_ret
  all_goals exact ⟨Xw (by rw [HF.o]),rfl⟩
 ·have hi:VE p 9=false:=by simpa using hi
  have HF:Hid (Y_ R p=false):=by show _=_;unfold Y_;rw [hi];rfl
  rw [hi] at C;clear hi;go_enter Tryz.func80,Tryz.ntmps80;go_wp2_with (go_at_call 111;refine (C.o _).mono ?_;rintro e w' ⟨rfl,rfl⟩)
  go_ret;exact ⟨Xw HF.o.symm,rfl⟩
theorem B6 (b:Nat) (R:Room) (p n:Nat) (w:World) (hR:ZT w b R) (hn:n<9) (hp:p<9) :
  Calls Tryz.prog 139 (Qu (some ⟨b,0,none⟩) p n) w fun e w'=>e = .returned (.agg (Qh 2 p n 0 0))∧ZT w' b (R.ZP n p U7)∧Fr w (· = b) w w':=by
 obtain ⟨c0,c1,c2⟩:=hR.Hi hn hp;have f0:=hR.Yz (54+n*27+p*3);have f1:=hR.Yz (54+n*27+p*3+1);have f2:=hR.Yz (54+n*27+p*3+2);have hb:=hR.lt;go_enter Tryz.func139,Tryz.ntmps139;go_wp2;refine VD (v:= .agg (Qh 2 p n 0 0)) (by simp [results,Tryz.results139,go_sem]) rfl ⟨rfl,?_,?_⟩
 ·exact (hR.ZP hn hp U7).below (Z' _ _)
 ·exact ((((Fr.refl _ _ _).setAt _ _).setAt _ _).setAt _ _).alloc (by simp only [size_setCell];exact Zw _) _
theorem zr (b:Nat) (R:Room) (p n:Nat) (w:World) (hR:ZT w b R) (hn:n<9) (hp:p<9) (hw:0≤(R.sub n p).want∧(R.sub n p).want<(R.src n).ss.length) :
  Calls Tryz.prog 166 (Qu (some ⟨b,0,none⟩) p n) w fun e w'=>e = .returned (V4 (asks R p n))∧Below w w w':=by
 obtain ⟨c0,c1,c2⟩:=hR.Hi hn hp;obtain ⟨s0,s1,s2,s3,s4⟩:=hR.ML hn;obtain ⟨k,hk⟩:=Rf hw.1;rw [hk] at hw c2;have VK:k<(R.src n).ss.length:=by omega
 obtain ⟨g,off,cap,H_,hlc,wq,hg,Yu⟩:=NC (hR.rows n hn) Zo;have hx:=Yu k VK;have HA:Hid (asks R p n=⟨9,(R.src n).own,n,0,(R.src n).ss.getD k 0⟩):=by show _=_;unfold asks;rw [hk];rfl
 rw [H_] at s3;have hb:=hR.lt;have hlen:=(hR.rows n hn).len;clear hk Yu H_ hR;generalize (R.src n).ss.getD k 0=X at *
 generalize (R.src n).ss.length=L at *
 generalize (R.src n).own=O at *
 go_enter Tryz.func166,Tryz.ntmps166;go_wp2
 go_region
 go_wp2;refine VD (v:=V4 ⟨9,O,n,0,X⟩) (by simp [results,Tryz.results166,go_sem,V4]) rfl ⟨by rw [HA.o],?_⟩;exact (((YJ _ _).alloc (Zw _) _).alloc Zi _).drew
theorem Ku (b:Nat) (R:Room) (p n:Nat) (w:World) (hR:ZT w b R) (hn:n<9) (hp:p<9) (hw:0≤(R.sub n p).want∧(R.sub n p).want<(R.src n).ss.length) :
  Calls Tryz.prog 141 (Qu (some ⟨b,0,none⟩) p n) w fun e w'=>(∃ v,e = .returned v∧YF w' v (waits R p n))∧Below w w w':=by
 obtain ⟨c0,c1,c2⟩:=hR.Hi hn hp;obtain ⟨s0,s1,s2,s3,s4⟩:=hR.ML hn;have hb:=hR.lt;have ca:=fun w hR=>zr b R p n w hR hn hp hw
 unfold V4 at ca;have CA:=Zh ca;clear ca;have HR:=Zh hR;have HW:Hid (waits R p n=if (R.sub n p).ZQ || (R.src n).ZE then [] else [asks R p n]):=rfl;clear hR hw;generalize asks R p n=A at *
 obtain ⟨a1,a2,a3,a4,a5⟩:=A;dsimp only at CA;cases gV:(R.sub n p).ZQ
 ·rw [gV] at c1;cases oD:(R.src n).ZE
  ·rw [oD] at s4;have HF:Hid (waits R p n=[⟨a1,a2,a3,a4,a5⟩]):=by show _=_;rw [HW.o,gV,oD];rfl
   clear gV oD HW;go_enter Tryz.func141,Tryz.ntmps141;go_wp2_with (go_at_call 166;refine (CA.o _ HR.o).mono ?_;rintro e w1 ⟨rfl,YY⟩)
   go_ret;refine ⟨⟨_,rfl,?_⟩,YY.alloc (by simp [YY.size]) _⟩;rw [HF.o];exact Lr w1 _ 1 _ Zd
  ·rw [oD] at s4;have HF:Hid (waits R p n=[]):=by show _=_;rw [HW.o,gV,oD];rfl
   clear gV oD HW;exact fW
 ·rw [gV] at c1;have HF:Hid (waits R p n=[]):=by show _=_;rw [HW.o,gV];rfl
  clear gV HW;exact fW
theorem index_hit {l:List Int} {x:Int} {k:Nat} (hk:k<l.length) (h:l.getD k 0=x) (hn:∀ j,j<k→l.getD j 0≠x):index l x=k:=by
 unfold index
 have:l.findIdx? (fun y=>y == x)=some k:=by
  rw [List.findIdx?_eq_some_iff_getElem];refine ⟨hk,?_,fun j hj=>?_⟩
  ·rw [SC,Vb hk] at h;simpa using h
  ·have:=hn j hj;rw [SC,Vb Zo] at this;simpa using this
 rw [this]
theorem wL {l:List Int} {x:Int} (hn:∀ j,j<l.length→l.getD j 0≠x):index l x = -1:=by
 unfold index
 have:l.findIdx? (fun y=>y == x)=none:=by
  rw [List.findIdx?_eq_none_iff];intro y hy;obtain ⟨j,hj,rfl⟩:=List.getElem_of_mem hy;have:=hn j hj;rw [SC,Vb hj] at this;simpa using this
 rw [this]
theorem DJ (v:Value) (l:List Int) (x:Int) (w:World) (hv:XR w v l.length (YO l)) :
  Calls Tryz.prog 156 #[v,.int .u32 x] w fun e w'=>e = .returned (.int .i64 (index l x))∧w=w':=by
 have hlen:=hv.len;by_cases h0:0<l.length
 ·obtain ⟨g,off,cap,rfl,hlc,wq,hg,Yu⟩:=Ps hv h0;have HC:=Zh Yu;have HH:=Zh (fun k hk h hn=>@index_hit l x k hk h hn);have HM:=Zh (@wL l x);clear Yu hv;go_enter Tryz.func156,Tryz.ntmps156;go_wp2
  go_loop [8] (fun i=>∃ k:Nat,k≤l.length∧i = .int .i64 k∧Hid (∀ j,j<k→l.getD j 0≠x)) (fun i=>l.length-(intOf i).toNat)
  case atStart=>exact ⟨0,Tk _,rfl,fun j hj=>by omega⟩
  case round=>
   obtain ⟨k,hk,rfl,KA⟩:=hrel;by_cases VK:k<l.length
   ·have hc:=HC.o k VK;by_cases hx:l.getD k 0=x
    ·have HF:=Zh (HH.o k VK hx KA.o);rw [hx] at hc;clear hx;go_wp2;go_ret;exact ⟨YW HF.o.symm,rfl⟩
    ·have hbeq:(x == l.getD k 0)=false:=by rw [WR];exact fun e=>hx e.symm
     have HX:=Zh hx;clear hx;generalize hy:l.getD k 0=y at *
     have HY:=Zh hy;clear hy;go_wp2
     go_round
     case rel=>exact ⟨k+1,Zo,Zn,fun j hj=>by by_cases JC:j<k;exact KA.o j JC;rw [show j=k by omega,HY.o];exact HX.o⟩
     case measure=>simp [intOf];omega
   ·have HF:=Zh (HM.o (fun j hj=>KA.o j Zo));go_wp2;go_ret;exact ⟨YW HF.o.symm,rfl⟩
 ·have:l=[]:=BN Zo;subst this;obtain ⟨a,cap,rfl,_⟩:=hv;go_enter Tryz.func156,Tryz.ntmps156;go_wp2
  go_loop [8] (fun i=>i = .int .i64 0) (fun _=>0)
  case atStart=>rfl
  case round=>
   subst hrel;go_wp2;go_ret;exact ⟨rfl,rfl⟩
def VZ (R:Room):Array Value:=((List.range 45).map fun j=>WO R (9+j)).toArray
theorem Rw (R:Room):(VZ R).size=45:=by simp [VZ]
theorem Mm (R:Room) (j:Nat) (h:j<45):(VZ R)[j]?=some (WO R (9+j)):=by simp [VZ,h]
theorem Lz (R:Room) (n:Nat) (h:n<9):(VZ R).extract (n*5) (n*5+5)=(Jl (R.src n).there (R.src n).num (R.src n).own (R.src n).sv (R.src n).ZE):=by
 apply Array.ext';rw [Array.toList_extract];apply List.ext_getElem?;intro i;by_cases hi:i<5
 ·have:((VZ R).toList.extract (n*5) (n*5+5))[i]?=(VZ R)[n*5+i]?:=by
   rw [List.extract_eq_take_drop,List.getElem?_take_of_lt Zo,List.getElem?_drop];simp
  rw [this,Mm R _ Zo,show 9+(n*5+i)=9+n*5+i by omega,Kn R h hi];have:i=0∨i=1∨i=2∨i=3∨i=4:=by omega
  rcases this with rfl|rfl|rfl|rfl|rfl <;> rfl
 ·rw [List.getElem?_eq_none (by rw [List.extract_eq_take_drop,S4];omega),List.getElem?_eq_none Ug]
theorem JZ (b:Nat) (R:Room) (x:Int) (w:World) (hR:ZT w b R) :
  Calls Tryz.prog 127 (Jg (some ⟨b,0,none⟩) x) w fun e w'=>e = .returned (.tuple (Q5 (of R x).1 (of R x).2.1 (of R x).2.2))∧Below w w w':=by
 have Tn:∀ j,j<(VZ R).size→w.cell? ⟨b,9+j,none⟩=(VZ R)[j]?:=by
  intro j hj;rw [Rw] at hj;rw [hR.cell Zo,Mm R j hj]
 have Uz:(Tryz.prog.info? 146).map (·.size)=some (VZ R).size:=by rw [Rw];kernel_rfl
 have HP:Hid (∀ n:Nat,n<9→∀ w,(Instr.index 146 (.agg (VZ R)) (.int .i64 (n:Int))).run Tryz.prog w = .ok (.agg (Jl (R.src n).there (R.src n).num (R.src n).own (R.src n).sv (R.src n).ZE)) w):=
  fun n hn w=>vH.MC w 146 145 9 (VZ R) n 5 _ Tryz.underlying146 hn Tryz.underlying145 rfl ZB _ (Lz R n hn)
 have HR:=Zh hR;have hb:=hR.lt;have HO:Hid (of R x=RZ R x 9 0):=rfl;have HS:Hid (∀ k n:Nat,RZ R x (k+1) n=if (R.src n).there && decide (0≤index (R.src n).ss x) then ((n:Int),index (R.src n).ss x,true) else RZ R x k (n+1)):=fun _ _=>rfl
 have HZ:Hid (∀ n:Nat,RZ R x 0 n=(0,0,false)):=fun _=>rfl
 clear hR;generalize VZ R=CS at *
 go_enter Tryz.func127,Tryz.ntmps127;go_wp2_with (refine vH.SV rfl 146 (.tmp 14) rfl b 9 rfl CS (.array 9 145) Tn Tryz.underlying146 rfl Uz ?_)
 clear Tn Uz;go_loopw [16] (fun i w'=>∃ k:Nat,k≤9∧i = .int .i64 k∧Below w w w'∧Hid (of R x=RZ R x (9-k) k)) (fun i _=>9-(intOf i).toNat)
 case atStart=>exact ⟨0,Zo,rfl,YJ _ _,HO.o⟩
 case round=>
  obtain ⟨k,hk,rfl,W8,hof⟩:=hrel;by_cases UF:k<9
  ·have kj:=HP.o k UF;have hRr:=HR.o.below W8;have CI:=Zh (fun (w1:World) (h:Below wr wr w1)=>DJ (R.src k).sv (R.src k).ss x w1 ((hRr.rows k UF).below h).r);have HE:=HS.o (8-k) k;rw [show 8-k+1=9-k by omega] at HE;have E1:=Zh HE;obtain ⟨sa,scap,H_,SJ⟩:=hRr.rows k UF;clear SJ;rw [H_] at kj CI;clear HE hRr H_;generalize index (R.src k).ss x=q at *
   generalize (R.src k).ss.length=sl at *
   generalize (R.src k).num=nm at *
   generalize (R.src k).own=ow at *
   generalize (R.src k).ZE=mt at *
   by_cases ht:(R.src k).there=true∧0≤q
   ·have HF:Hid (of R x=((k:Int),q,true)):=by
     show _=_;rw [hof.o,E1.o,ht.1];simp [ht.2]
    obtain ⟨ht1,ht2⟩:=ht;rw [ht1] at kj;clear ht1;go_wp2_with (go_at_call 156;refine (CI.o _ (Z' _ _)).mono ?_;rintro e w1 ⟨rfl,rfl⟩)
    go_ret3
    exact ⟨by rw [HF.o];rfl,W8.trans ((Z' _ _).mono W8.size)⟩
   ·have HF:Hid (of R x=RZ R x (9-(k+1)) (k+1)):=by
     show _=_;rw [hof.o,E1.o,Z4 (by simpa using ht),show 8-k=9-(k+1) by omega]
    cases ai:(R.src k).there
    ·exact fx
    ·have ht2:q<0:=by
      rw [ai] at ht;simp at ht;exact ht
     exact fx
  ·have HF:Hid (of R x=(0,0,false)):=by
    show _=_;rw [hof.o,show 9-k=0 by omega,HZ.o]
   go_wp2
   go_ret3
   exact ⟨by rw [HF.o];rfl,W8⟩
theorem Dy (v:Value) (l:List Int) (w:World) (hv:XR w v l.length (YO l)) (hl:l.length≤1000000) :
  Calls Tryz.prog 112 #[v] w fun e w'=>(∃ v',e = .returned v'∧Row w' 66 v' l.length (YO l))∧Below w w w':=by
 obtain ⟨a,cap,rfl,SJ,N7,Rh,LK⟩:=id hv;have HV:=Zh hv;have HN:=Zh Rh;clear hv LK SJ N7 Rh;cases a with
 | none=>
  obtain ⟨h1,h2⟩:=HN.o rfl;have HL:Hid (l=[]):=BN h1;have he:=fun w=>Lib.run_eql_slice_nil (P:=Tryz.prog) w 29 66 none l.length cap 0 0 Tryz.underlying29
  clear h1 h2;go_enter Tryz.func112,Tryz.ntmps112;go_wp2;go_ret;exact ⟨⟨_,rfl,by rw [HL.o];exact Row.nil _ _⟩,YJ _ _⟩
 | some a=>
  have he:=fun w=>Lib.run_eql_slice_nil (P:=Tryz.prog) w 29 66 (some a) l.length cap 0 0 Tryz.underlying29
  clear HN;go_enter Tryz.func112,Tryz.ntmps112;go_wp2_with (at_builtin;refine QB rfl (.tmp 5) (.tmp 6) 29 rfl w.heap.size Vo _ 0 [] rfl (SL w 66 1) _ l.length (YO l) rfl (HV.o.below (Z' _ _)) (by rw [VV];omega) (Rc l) Zo Zo Zi (fun v' w1 HO HG=>?_))
  go_ret
  have hb:=((Fr.refl w.heap.size PN w).alloc (Zw _) (.cells #[] 66)).grown HG.o Zi (by
   intro k hk;have hk:some w.heap.size=some k:=hk;cases hk
   exact Zw _)
  refine ⟨⟨_,rfl,?_⟩,hb.below⟩;have:=Row.Z6 HO.o
  rwa [QD,J2] at this
theorem BI (b:Nat) (R:Room) (p n:Int) (w:World) (hR:ZT w b R) :
  Calls Tryz.prog 83 (Qu (some ⟨b,0,none⟩) p n) w fun e w'=>
   e = .returned (.tuple (Q1 (if Zv R p n then (Ql p n (R.sub n.toNat p.toNat).want (R.sub n.toNat p.toNat).ZQ) else (Ql 0 0 0 false)) (Zv R p n)))∧Below w w w':=by
 have CP:=Zh (fun w=>Me p 9 w);have CN:=Zh (fun w=>Me n 9 w);have hb:=hR.lt;have HH:Hid (Zv R p n=(VE p 9 && VE n 9 && (R.sub n.toNat p.toNat).there)):=rfl;by_cases hp:VE p 9=true
 ·by_cases hn:VE n 9=true
  ·obtain ⟨h1,h2⟩:=(Xn p 9).1 hp;obtain ⟨h3,h4⟩:=(Xn n 9).1 hn;obtain ⟨p,rfl⟩:=Rf (show 0≤p by omega);obtain ⟨n,rfl⟩:=Rf (show 0≤n by omega);rw [Wz,Wz] at HH ⊢;rw [hp] at CP HH;rw [hn] at CN HH;obtain ⟨c0,c1,c2⟩:=hR.Hi (n:=n) (p:=p) Zo Zo;clear hp hn hR;cases ht:(R.sub n p).there
   ·rw [ht] at c0;have HF:Hid (Zv R p n=false):=by show _=_;rw [HH.o,ht];rfl
    rw [HF.o];clear ht;exact fL
   ·rw [ht] at c0;have HF:Hid (Zv R p n=true):=by show _=_;rw [HH.o,ht];rfl
    rw [HF.o];clear ht;go_enter Tryz.func83,Tryz.ntmps83;go_wp2_with fail
    refine (CP.o _).mono ?_;rintro e w1 ⟨rfl,rfl⟩;go_wp2_with fail
    refine (CN.o _).mono ?_;rintro e w1 ⟨rfl,rfl⟩;go_wp2_with fail
    refine VD (v:= .tuple (Q1 (Ql p n (R.sub n p).want (R.sub n p).ZQ) true)) (by simp [results,Tryz.results83,go_sem]) rfl ⟨rfl,?_⟩
    repeat (first|exact YJ _ _|refine Below.drew ?_|refine Below.alloc ?_ Zi _)
  ·have hn:VE n 9=false:=by simpa using hn
   have HF:Hid (Zv R p n=false):=by show _=_;rw [HH.o,hp,hn];rfl
   rw [HF.o];rw [hp] at CP;rw [hn] at CN;clear hp hn hR;exact fL
 ·have hp:VE p 9=false:=by simpa using hp
  have HF:Hid (Zv R p n=false):=by show _=_;rw [HH.o,hp];rfl
  rw [HF.o];rw [hp] at CP;clear hp hR;go_enter Tryz.func83,Tryz.ntmps83;go_wp2_with fail
  refine (CP.o _).mono ?_;exact Yx75
theorem rD (b:Nat) (R:Room) (n:Int) (w:World) (hR:ZT w b R) (h:(VE n 9 && (R.src n.toNat).there)=false) :
  Calls Tryz.prog 81 (Qk (some ⟨b,0,none⟩) n) w fun e w'=>
   e = .returned (.tuple (Q1 (Qq 0 0 none 0 0 false) false))∧Below w w w':=by
 have CN:=Zh (fun w=>Me n 9 w);have hb:=hR.lt;by_cases hn:VE n 9=true
 ·obtain ⟨h3,h4⟩:=(Xn n 9).1 hn;obtain ⟨n,rfl⟩:=Rf (show 0≤n by omega);rw [hn,Wz,Bool.true_and] at h;obtain ⟨s0,s1,s2,s3,s4⟩:=hR.ML (n:=n) Zo;rw [h] at s0;exact Yx84
 ·have hn:VE n 9=false:=by simpa using hn
  exact Yx84
theorem vK (b:Nat) (R:Room) (n:Nat) (w:World) (hR:ZT w b R) (hn:1≤n∧n<9) (h:(R.src n).there=true) (hl:(R.src n).ss.length≤1000000) :
  Calls Tryz.prog 81 (Qk (some ⟨b,0,none⟩) n) w fun e w'=>
   (∃ v',e = .returned (.tuple (Q1 #[.int .i64 (R.src n).num,.int .i64 (R.src n).own,v',.bool (R.src n).ZE] true))∧Row w' 66 v' (R.src n).ss.length (YO (R.src n).ss))∧Below w w w':=by
 have CN:=Zh (fun w=>Me n 9 w);have hb:=hR.lt;have hi:VE n 9=true:=(Xn _ _).2 Zo;obtain ⟨s0,s1,s2,s3,s4⟩:=hR.ML hn.2;rw [h] at s0;rw [hi] at CN;have U':=Zh (hR.rows n hn.2);obtain ⟨sa,scap,H_,SJ⟩:=hR.rows n hn.2;have CC:=Zh (fun w1 (hw:Below w w w1)=>Dy (R.src n).sv (R.src n).ss w1 ((hR.rows n hn.2).below hw).r hl);rw [H_] at s3 CC;clear hi h hR SJ H_;generalize (R.src n).ss=ss at *
 generalize (R.src n).num=nm at *
 generalize (R.src n).own=ow at *
 generalize (R.src n).ZE=mt at *
 go_enter Tryz.func81,Tryz.ntmps81;go_wp2_with fail
 refine (CN.o _).mono ?_;rintro e w1 ⟨rfl,rfl⟩;go_wp2_with fail
 refine (CC.o _ (by repeat (first|exact YJ _ _|refine Below.alloc ?_ Zi _))).mono ?_;rintro e w1 ⟨⟨v',rfl,ZY⟩,YY⟩;have QK:=Zh ZY;obtain ⟨a',cap',rfl,SJ⟩:=ZY;obtain ⟨L_,Kb⟩:=SY YY;have hz:w.heap.size+1<w1.heap.size:=by have:=YY.size;simp at this;omega
 have HB:=Zh YY;have r0:=L_ w.heap.size 0 Ug;have r1:=L_ w.heap.size 1 Ug;have r2:=L_ w.heap.size 2 Ug;have r3:=L_ w.heap.size 3 Ug;simp at r0 r1 r2 r3;clear SJ YY;go_wp2_with fail
 refine VD (v:= .tuple (Q1 (Qq nm ow a' ss.length cap' mt) true)) (by simp [results,Tryz.results81,go_sem,r0,r1,r2,r3]) rfl ⟨⟨_,rfl,?_⟩,?_⟩
 ·refine QK.o.fr (B:=w1.heap.size) (S:=fun k=>w.heap.size≤k∧k<w.heap.size+2) ?_ (Zw _) ?_
  ·repeat (refine Fr.setCell ?_ (Wh Zi) _)
   exact Fr.refl _ _ _
  ·intro k c fr hk;rw [HB.o.block k Ug];obtain ⟨n1,n2⟩:=V5 w (.cells (Qq 0 0 none 0 0 false) 108) (.cells (Qq nm ow sa ss.length scap mt) 108);have:k=w.heap.size∨k=w.heap.size+1:=by omega
   rcases this with rfl|rfl
   ·rw [n1];exact Uo Zd
   ·rw [n2];exact Uo Zd
 ·repeat (refine Below.setCell ?_ Zi _)
  exact ((Z' _ _).trans ((Z' _ _).mono Zi)).trans (HB.o.mono Ug)
end Go.Proofs.Rm
namespace Go.Proofs.Rm
open Go.RowKit Go.Proofs.Heap Go.Proofs.Mem
theorem Zx {base:Nat} {e:TypeId} {size:Nat} {v:Value} {n:Nat} {xs:List Value} {w w':World} (h:w.ownsRow base e size v n xs) (hb:Below w w w'):w'.ownsRow base e size v n xs:=by
 obtain ⟨h1,h2⟩:=h;refine ⟨h1,?_⟩;rcases h2 with h2|⟨g,cap,cur,hv,hg,hh,r⟩
 ·exact Ws h2
 ·have PV:g<w.heap.size:=by
   rcases Nat.lt_or_ge g w.heap.size with h|h
   ·exact h
   ·rw [E7 h] at hh;cases hh
  exact Wh ⟨g,cap,cur,hv,hg,by rw [hb.block g PV];exact hh,r⟩
def SR (R:Room) (n:Int) (k:Nat):List Nat:=(List.range k).filter fun p=>Zv R p n
theorem A2 (R:Room) (n:Int) (k:Nat):SR R n (k+1)=SR R n k++if Zv R k n then [k] else []:=by
 unfold SR;rw [qE,List.filter_append]
 congr 1
 cases h:Zv R k n <;> simp [h]
theorem Hj (R:Room) (n:Int) (k:Nat):(SR R n k).length≤k:=by
 have:=List.length_filter_le (fun p:Nat=>Zv R p n) (List.range k);rw [List.length_range] at this;exact this
theorem JH (a b:List Nat):ints (a++b)=ints a++ints b:=NR
theorem YL {base:Nat} {e:TypeId} {size:Nat} {v:Value} {n:Nat} {xs:List Value} {w:World} (h:w.ownsRow base e size v n xs):∀ k,v.ownBlock=some k→base≤k:=by
 intro k hk;obtain ⟨_,h⟩:=h;rcases h with ⟨rfl,_⟩|⟨g,cap,cur,rfl,hg,_⟩
 ·cases hk
 ·have hk:some g=some k:=hk;cases hk;exact hg
theorem F_ (b:Nat) (R:Room) (n:Int) (w:World) (hR:ZT w b R) :
  Calls Tryz.prog 82 (Qk (some ⟨b,0,none⟩) n) w fun e w'=>(∃ v,e = .returned v∧Row w' 3 v (Z0 R n).length (ints (Z0 R n)))∧Below w w w':=by
 have HR:=Zh hR;have hb:=hR.lt;have HS:Hid (Z0 R n=SR R n 9):=rfl;clear hR;go_enter Tryz.func82,Tryz.ntmps82;go_wp2;go_loopw [5,9] (fun v i w'=>∃ k:Nat,k≤9∧i = .int .i64 k∧Below w w w'∧w'.ownsRow w 3 1 v (SR R n k).length (ints (SR R n k))) (fun _ i _=>9-(intOf i).toNat)
 case atStart=>exact ⟨0,Zo,rfl,YJ _ _,TY _ _ _ _⟩
 case round=>
  obtain ⟨k,hk,rfl,W8,YH⟩:=hrel;have Yh:=Zh YH;clear YH;by_cases UF:k<9
  ·have cs:=BI b R k n wr (HR.o.below W8);have qA:=Zh (A2 R n k);have Ky:=Hj R n k;cases hh:Zv R k n
   ·rw [hh,Z4 Zd] at cs;have CS:=Zh cs;clear cs;have HF:Hid (SR R n (k+1)=SR R n k):=by show _=_;rw [qA.o,hh];simp
    clear hh;go_wp2_with (go_at_call 83;refine CS.o.mono ?_;rintro e w1 ⟨rfl,YY⟩)
    go_roundw
    case rel=>
     refine ⟨k+1,Zo,Zn,(W8.trans (YY.mono W8.size)).alloc (PO W8.size YY.size) _,?_⟩;rw [HF.o];exact (Zx Yh.o YY).alloc _
    case measure=>simp [intOf];omega
   ·rw [hh,ZR rfl,Wz] at cs;generalize (R.sub n.toNat k).want=wa at cs;generalize (R.sub n.toNat k).ZQ=pa at cs;have CS:=Zh cs;clear cs;have HF:Hid (SR R n (k+1)=SR R n k++[k]):=by show _=_;rw [qA.o,hh];simp
    clear hh;go_wp2_with (first|(go_at_call 83;refine CS.o.mono ?_;rintro e w1 ⟨rfl,YY⟩)|(at_builtin;refine YV rfl (.tmp 20) (.tmp 22) 72 rfl w.heap.size W_ _ (SR R n k).length (ints (SR R n k)) rfl ?a1 _ 1 [.int .i64 k] rfl ?a2 rfl ?a4 ?a5 ?a6 ?a7 (fun v' w2 NH HG=>?_)))
    case a1=>exact ((Zx Yh.o YY).alloc _).alloc _
    case a2=>exact Yr _ _ 1 _ [.int .i64 k] Zd Zi
    case a4=>intro u hu;simp at hu;subst hu;rfl
    case a5=>omega
    case a6=>omega
    case a7=>have h1:=W8.size;have h2:=YY.size;simp;omega
    go_roundw
    case rel=>
     refine ⟨k+1,Zo,Zn,?_,?_⟩
     ·have h1:=W8.trans (YY.mono W8.size);have h2:=h1.alloc h1.size (.cells (Ql k n wa pa) 105);have h3:=h2.alloc h2.size (.cells #[.int .i64 k] 3);exact h3.grown HG.o h3.size (YL Yh.o)
     ·rw [HF.o,UE,JH];exact NH.o
    case measure=>simp [intOf];omega
  ·have gM:k=9:=by omega
   subst gM;go_wp2;go_ret;exact ⟨⟨_,rfl,by rw [HS.o];exact Row.Z6 Yh.o⟩,W8⟩
theorem Row.grown {w w':World} {e:TypeId} {v:Value} {n:Nat} {xs:List Value} (h:Row w e v n xs) {base:Nat} {e2:TypeId} {size:Nat} {vo:Value} {m:Nat} {ys:List Value} (ho:w.ownsRow base e2 size vo m ys) (hg:w.grownBy w' vo.ownBlock) (WK:e≠e2):Row w' e v n xs:=by
 refine h.fr (B:=w.heap.size) (S:=fun k=>vo.ownBlock=some k) ⟨hg.os,hg.tape,hg.output,hg.size,fun k hk hs=>hg.block k hk (fun e=>hs e.symm)⟩ (Zw _) ?_;intro k c fr hk he;obtain ⟨_,ho⟩:=ho;rcases ho with ⟨rfl,_⟩|⟨g,cap,cur,rfl,_,hh,_⟩
 ·cases hk
 ·have hk:some g=some k:=hk;cases hk;rw [hh] at he;exact Uo (fun h=>WK h.symm) he
theorem ZT.grown {w w':World} {b:Nat} {R:Room} (h:ZT w b R) {base:Nat} {e2:TypeId} {size:Nat} {vo:Value} {m:Nat} {ys:List Value} (ho:w.ownsRow base e2 size vo m ys) (hg:w.grownBy w' vo.ownBlock) (hb:b<base) (WK:66≠e2):ZT w' b R:=by
 refine ⟨?_,fun n hn=>Row.grown (h.rows n hn) ho hg WK⟩;obtain ⟨c,hc,hs,UO⟩:=h.cells;refine ⟨c,?_,hs,UO⟩;rw [hg.block b h.lt (fun e=>by have:=YL ho b e.symm;omega)];exact hc
theorem WG {base:Nat} {e:TypeId} {size:Nat} {v:Value} {n:Nat} {xs:List Value} {w w':World} {S:Nat→Prop} (h:w.ownsRow base e size v n xs) (hf:Fr w S w w') (hS:∀ k,S k→k<base):w'.ownsRow base e size v n xs:=by
 obtain ⟨h1,h2⟩:=h;refine ⟨h1,?_⟩;rcases h2 with h2|⟨g,cap,cur,hv,hg,hh,r⟩
 ·exact Ws h2
 ·have PV:g<w.heap.size:=by
   rcases Nat.lt_or_ge g w.heap.size with h|h
   ·exact h
   ·rw [E7 h] at hh;cases hh
  exact Wh ⟨g,cap,cur,hv,hg,by rw [hf.block g PV (fun hs=>by have:=hS g hs;omega)];exact hh,r⟩
theorem ZT.FO {w:World} {b:Nat} {R:Room} (h:ZT w b R) {e:TypeId} (he:e≠152):∀ k c fr,k=b→w.heap[k]?≠some (.cells c e fr):=by
 intro k c fr hk;subst hk;obtain ⟨c',hc,_,_⟩:=h.cells;rw [hc];exact Uo (fun h=>he h.symm)
theorem SQ (R:Room) (n:Nat) (x:Src):(R.Y5 n x).src n=x:=by simp [Room.Y5]
theorem Sv (R:Room) (n:Nat) (x y:Src):(R.Y5 n x).Y5 n y=R.Y5 n y:=by
 unfold Room.Y5
 congr 1
 funext m;dsimp only;split <;> rfl
theorem ZT.TI {w:World} {b:Nat} {R:Room} (h:ZT w b R) {n i:Nat} (hn:n<9) (hi:i<5) {x:Src} {v:Value} (hx:∀ j,j<5→M9 x j=if j=i then v else M9 (R.src n) j)
  (ZY:Row w 66 x.sv x.ss.length (YO x.ss)):ZT (w.setCell ⟨b,9+n*5+i,none⟩ v) b (R.Y5 n x):=by
 refine h.set Zo (fun j hj=>?_) (fun m hm=>?_)
 ·by_cases h1:j<9∨54≤j
  ·unfold WO;rw [Z4 (by omega:¬j=9+n*5+i)];by_cases h2:j<9
   ·rw [ZR h2,ZR h2];rfl
   ·rw [Z4 h2,Z4 h2,Z4 Zo,Z4 Zo];rfl
  ·unfold WO;rw [Z4 (by omega:¬j<9),ZR (by omega:j<54),Z4 (by omega:¬j<9),ZR (by omega:j<54)];by_cases h3:(j-9) / 5=n
   ·have e:(R.Y5 n x).src ((j-9) / 5)=x:=by simp [Room.Y5,h3]
    rw [e,h3,hx _ Zo];have:((j-9) % 5=i)↔(j=9+n*5+i):=by omega
    by_cases h4:(j-9) % 5=i
    ·rw [ZR h4,ZR (this.1 h4)]
    ·rw [Z4 h4,Z4 (fun e=>h4 (this.2 e))]
   ·have e:(R.Y5 n x).src ((j-9) / 5)=R.src ((j-9) / 5):=by simp [Room.Y5,h3]
    rw [e,Z4 Zo]
 ·by_cases hmn:m=n
  ·subst hmn;rw [SQ];exact ZY
  ·have e:(R.Y5 n x).src m=R.src m:=by simp [Room.Y5,hmn]
   rw [e];exact h.rows m hm
theorem ZT.Y5 {w:World} {b:Nat} {R:Room} (h:ZT w b R) {n:Nat} (hn:n<9) (x:Src) (ZY:Row w 66 x.sv x.ss.length (YO x.ss)) :
  ZT (((((w.setCell ⟨b,9+n*5,none⟩ (.bool x.there)).setCell ⟨b,9+n*5+1,none⟩ (.int .i64 x.num)).setCell ⟨b,9+n*5+2,none⟩ (.int .i64 x.own)).setCell ⟨b,9+n*5+3,none⟩ x.sv).setCell ⟨b,9+n*5+4,none⟩ (.bool x.ZE)) b (R.Y5 n x):=by
 have ho:=h.other;obtain ⟨c,hc,_,_⟩:=h.cells;have r1:=h.rows n hn;have c5:∀ j,j<5→(j=0∨j=1∨j=2∨j=3∨j=4):=by intro j hj;omega
 have h1:=h.TI hn (i:=0) Zo (x:={R.src n with there:=x.there}) (v:= .bool x.there) (by intro j hj;rcases c5 j hj with rfl|rfl|rfl|rfl|rfl <;> rfl) r1;have h2:=h1.TI hn (i:=1) Zo (x:={R.src n with there:=x.there,num:=x.num}) (v:= .int .i64 x.num) iX (by have:=h1.rows n hn;rw [SQ] at this;exact this);have h3:=h2.TI hn (i:=2) Zo (x:={R.src n with there:=x.there,num:=x.num,own:=x.own}) (v:= .int .i64 x.own) iX (by have:=h2.rows n hn;rw [SQ] at this;exact this)
 have hrow3:Row (((w.setCell ⟨b,9+n*5,none⟩ (.bool x.there)).setCell ⟨b,9+n*5+1,none⟩ (.int .i64 x.num)).setCell ⟨b,9+n*5+2,none⟩ (.int .i64 x.own)) 66 x.sv x.ss.length (YO x.ss):=
  ZY.fr ((((Fr.refl w.heap.size (· = b) w).setAt _ _).setAt _ _).setAt _ _) (Zw _) ho
 have h4:=h3.TI hn (i:=3) Zo (x:={R.src n with there:=x.there,num:=x.num,own:=x.own,sv:=x.sv,ss:=x.ss}) (v:=x.sv) iX hrow3;have h5:=h4.TI hn (i:=4) Zo (x:=x) (v:= .bool x.ZE) iX (by have:=h4.rows n hn;rw [SQ] at this;exact this);rw [Sv,Sv,Sv,Sv] at h5;exact h5
theorem I9 (n:Nat) (p:Nat):∀ (l:List Nat) (R:Room),Xm n (l++[p]) R=((Xm n l R).1++[⟨3,p,n,0,0⟩,⟨2,p,n,0,0⟩],(Xm n l R).2.ZP n p U7)
 | [],R=>rfl
 | q :: l,R=>by
  simp only [List.cons_append,Xm];rw [I9 n p l]
theorem L4 (n:Nat):∀ (l:List Nat) (R:Room),(Xm n l R).1.length=2*l.length
 | [],R=>rfl
 | q :: l,R=>by
  simp only [Xm,List.length_cons,L4 n l];omega
theorem FC (t:YB):(Z9 t).length=5:=rfl
theorem X_ (l:List YB):∀ u∈l.flatMap Z9,u.oneCell'=true:=by
 intro u hu;obtain ⟨t,_,hu⟩:=List.mem_flatMap.1 hu;simp only [Z9,KN,List.mem_nil_iff,or_false] at hu;rcases hu with rfl|rfl|rfl|rfl|rfl <;> rfl
theorem VT (l:List YB):(l.flatMap Z9).length=l.length*5:=XG _ 5 FC l
theorem Tb {w:World} {v:Value} {l:List Nat} (h:Row w 3 v l.length (ints l)) (hl:0<l.length):∃ g off cap,v = .slice (some ⟨g,off,none⟩) l.length cap∧g<w.heap.size∧∀ j,j<l.length→w.cell? ⟨g,off+j,none⟩=some (.int .i64 (l.getD j 0:Nat)):=by
 have qK:(ints l).length=l.length:=TB _;obtain ⟨g,off,cap,h1,_,_,h4,h5⟩:=h.open (by rw [qK];exact hl);refine ⟨g,off,cap,h1,h4,fun j hj=>?_⟩;rw [h5 j (by rw [qK];exact hj),SC,Vb hj];simp [ints,hj]
theorem Hk {R:Room} {n:Int} {j:Nat} (h:j<(Z0 R n).length):(Z0 R n).getD j 0<9:=by
 rw [SC,Vb h];have:=PA h;have:=(Z1g.1 this).1;simpa using this
theorem Pq (R:Room) (n:Int):(Z0 R n).length≤9:=Hj R n 9
theorem ER {l:List Nat} {k:Nat} (h:k<l.length):l.take (k+1)=l.take k++[l.getD k 0]:=by
 rw [List.take_succ_eq_append_getElem h,SC,Vb h];rfl
theorem Gr (b:Nat) (R:Room) (n:Nat) (w:World) (hR:ZT w b R) (hn:n<9) :
  Calls Tryz.prog 137 (Qk (some ⟨b,0,none⟩) n) w fun e w'=>(∃ v,e = .returned v∧YF w' v (gone R n).1)∧ZT w' b (gone R n).2∧Fr w (· = b) w w':=by
 have hb:=hR.lt;have CS:=Zh (F_ b R n w hR);have HG0:Hid (gone R n=((Xm n (Z0 R n) R).1,(Xm n (Z0 R n) R).2.Y5 n Ud)):=rfl;have HM:Hid (∀ j,j<(Z0 R n).length→(Z0 R n).getD j 0<9):=fun j h=>Hk h
 have HL:=Pq R n;have HR:=Zh hR;clear hR;generalize Z0 R n=L at *
 go_enter Tryz.func137,Tryz.ntmps137;go_wp2_with fail
 refine CS.o.mono ?_;rintro e w1 ⟨⟨lv,rfl,ZY⟩,YY⟩;have U':=Zh ZY;have HB:=Zh YY;clear YY;rcases Nat.eq_zero_or_pos L.length with h0|h0
 ·obtain ⟨la,wQ,rfl,hx⟩:=ZY;clear hx;have iF:Hid (L=[]):=BN h0;have Xy:=Zh (HR.o.below HB.o);obtain ⟨s0,s1,s2,s3,s4⟩:=Xy.o.ML hn;have f0:=Xy.o.Yz (9+n*5);have f1:=Xy.o.Yz (9+n*5+1);have f2:=Xy.o.Yz (9+n*5+2);have f3:=Xy.o.Yz (9+n*5+3);have f4:=Xy.o.Yz (9+n*5+4);go_wp2_with fail
  go_loopw [5,12] (fun v i w'=>v = .slice none 0 0∧i = .int .i64 0∧w'=w1) (fun _ _ _=>0)
  case atStart=>exact ⟨rfl,rfl,rfl⟩
  case round=>
   obtain ⟨rfl,rfl,rfl⟩:=hrel;go_wp2;go_ret;rw [HG0.o,iF.o];refine ⟨⟨_,rfl,?_⟩,Xy.o.Y5 hn Ud (Row.nil _ _),((((((Fr.Z7 _ HB.o).setAt _ _).setAt _ _).setAt _ _).setAt _ _).setAt _ _)⟩;exact Row.nil _ _
 ·obtain ⟨g,off,cap,rfl,hg,Yu⟩:=Tb ZY h0;have HC:=Zh Yu;clear ZY Yu;go_wp2_with fail
  go_loopw [5,12] (fun v i w'=>∃ k:Nat,k≤L.length∧i = .int .i64 k∧Fr w (· = b) w w'∧Row w' 3 (.slice (some ⟨g,off,none⟩) L.length cap) L.length (ints L)∧ZT w' b (Xm n (L.take k) R).2∧w'.ownsRow w 158 5 v (Xm n (L.take k) R).1.length ((Xm n (L.take k) R).1.flatMap Z9)) (fun _ i _=>L.length-(intOf i).toNat)
  case atStart=>exact ⟨0,Zo,rfl,Fr.Z7 _ HB.o,U'.o,HR.o.below HB.o,TY _ _ _ _⟩
  case round=>
   obtain ⟨k,hk,rfl,Wu,ZY,Xp,YH⟩:=hrel;have T8:=Zh Wu;have QK:=Zh ZY;have Xy:=Zh Xp;have Yh:=Zh YH;clear Wu YH Xp;by_cases VK:k<L.length
   ·obtain ⟨g',off',cap',e1,hg',Yu⟩:=Tb ZY h0;cases e1;have hc:=Yu k VK;have hp:=HM.o k VK;have HT:=Zh (ER VK);have Bt:=L4 n (L.take k) R;rw [S4] at Bt;clear Yu ZY;generalize L.getD k 0=p at *
    have HS:=Zh (I9 n p (L.take k) R);have CE:=Zh (B6 b (Xm n (L.take k) R).2 p n wr Xy.o hn hp);generalize Xm n (L.take k) R=G at *
    go_wp2_with (first|(go_at_call 139;refine CE.o.mono ?_;rintro e w2 ⟨rfl,QT,Sb⟩;have LP:=Zh QT;have T4:=Zh Sb;clear QT Sb)|(at_builtin;refine YV rfl (.tmp 16) (.tmp 24) 98 rfl w.heap.size XM _ G.1.length (G.1.flatMap Z9) rfl ?a1 _ 2 ([⟨3,p,n,0,0⟩,⟨2,p,n,0,0⟩].flatMap Z9) rfl ?a2 rfl ?a4 ?a5 ?a6 ?a7 (fun v' w3 HO HG=>?_)))
    case a1=>exact (WG Yh.o T4.o (fun k hk=>by omega)).alloc _
    case a2=>exact Yr _ _ 2 _ ([⟨3,p,n,0,0⟩,⟨2,p,n,0,0⟩].flatMap Z9) Zd rfl
    case a4=>exact X_ _
    case a5=>omega
    case a6=>omega
    case a7=>have h1:=T8.o.size;have h2:=T4.o.size;simp;omega
    go_roundw
    case rel=>
     have h1:=T8.o.size;have h2:=T4.o.size;have Sc:=(WG Yh.o T4.o (fun k hk=>by omega)).alloc (.cells ([⟨3,p,n,0,0⟩,⟨2,p,n,0,0⟩].flatMap Z9).toArray 158);have W8:=Z' w2 (.cells ([⟨3,p,n,0,0⟩,⟨2,p,n,0,0⟩].flatMap Z9).toArray 158);refine ⟨k+1,Zo,Zn,?_,?_,?_,?_⟩
     ·exact mW
     ·exact Row.grown ((QK.o.fr T4.o (Zw _) (Xy.o.FO Zd)).below W8) Sc HG.o Zd
     ·rw [HT.o,HS.o];exact ZT.grown (LP.o.below W8) Sc HG.o hb Zd
     ·rw [HT.o,HS.o];dsimp only;rw [UE,OQ];exact HO.o
    case measure=>simp [intOf];omega
   ·have dg:k=L.length:=by omega
    have hT:L.take k=L:=by rw [dg,nv]
    rw [hT] at Xy Yh;obtain ⟨s0,s1,s2,s3,s4⟩:=Xy.o.ML hn;have f0:=Xy.o.Yz (9+n*5);have f1:=Xy.o.Yz (9+n*5+1);have f2:=Xy.o.Yz (9+n*5+2);have f3:=Xy.o.Yz (9+n*5+3);have f4:=Xy.o.Yz (9+n*5+4);clear hT ZY;generalize Xm n L R=G at *
    go_wp2;go_ret;rw [HG0.o];exact ⟨⟨_,rfl,(Row.Z6 Yh.o).fr (((((((Fr.refl wr.heap.size (· = b) wr).setAt _ _).setAt _ _).setAt _ _).setAt _ _).setAt _ _)) (Zw _) (Xy.o.FO Zd)⟩,Xy.o.Y5 hn Ud (Row.nil _ _),(((((T8.o.setAt _ _).setAt _ _).setAt _ _).setAt _ _).setAt _ _)⟩
end Go.Proofs.Rm
namespace Go.Proofs.Rm
open Go.RowKit Go.Proofs.Heap Go.Proofs.Mem
theorem below_drewN {B:Nat} {a w:World} (h:Below B a w):∀ q,Below B a (w.drewN q)
 | 0=>h
 | q+1=>(below_drewN h q).drew
theorem Ep (b:Nat) (R:Room) (o:Op) (sa ba:Option Addr) (sl sc bl bc:Nat) (w:World) (hR:ZT w b R) (hs:1≤o.source∧o.source<9) :
  Calls Tryz.prog 164 (Qi (some ⟨b,0,none⟩) (Jo o sa sl sc ba bl bc)) w fun e w'=>e = .returned (.int .i64 (ZH R o))∧Below w w w':=by
 obtain ⟨k,p,n,q,nm,ss⟩:=o;obtain ⟨n,rfl⟩:=Rf (show 0≤n by have:=hs.1;dsimp only at this;omega);have hn:n<9:=by have:=hs.2;dsimp only at this;omega
 obtain ⟨s0,s1,s2,s3,s4⟩:=hR.ML hn;have hb:=hR.lt;have HL:Hid (ZH R ⟨k,p,n,q,nm,ss⟩=if q<0∨((R.src n).ss.length:Int)≤q then 5 else 0):=rfl;have hlen:=(hR.rows n hn).len;obtain ⟨va,vc,H_,hx⟩:=hR.rows n hn;rw [H_] at s3;clear hR hs hx H_;generalize (R.src n).ss.length=L at *
 dsimp only;by_cases h1:q<0
 ·have HF:Hid (ZH R ⟨k,p,n,q,nm,ss⟩=5):=by show _=_;rw [HL.o,ZR (Ws h1)]
  exact bP
 ·by_cases h2:(L:Int)≤q
  ·have HF:Hid (ZH R ⟨k,p,n,q,nm,ss⟩=5):=by show _=_;rw [HL.o,ZR (Wh h2)]
   have hd1:decide (q<0)=false:=WI h1;have qI:decide ((L:Int)≤q)=true:=Wi h2;exact bP
  ·have HF:Hid (ZH R ⟨k,p,n,q,nm,ss⟩=0):=by show _=_;rw [HL.o,Z4 Zo]
   have hd1:decide (q<0)=false:=WI h1;have qI:decide ((L:Int)≤q)=false:=WI h2;exact bP
theorem sk (b:Nat) (R:Room) (o:Op) (sa ba:Option Addr) (sl sc bl bc:Nat) (w:World) (hR:ZT w b R) (hs:1≤o.source∧o.source<9) (hp:1≤o.peer∧o.peer<9) :
  Calls Tryz.prog 165 (Qi (some ⟨b,0,none⟩) (Jo o sa sl sc ba bl bc)) w fun e w'=>e = .returned (.int .i64 (heard R o))∧Below w w w':=by
 have CL:=Zh (fun (w1:World) (h:Below w w w1)=>Ep b R o sa ba sl sc bl bc w1 (hR.below h) hs);obtain ⟨k,p,n,q,nm,ss⟩:=o;obtain ⟨n,rfl⟩:=Rf (show 0≤n by have:=hs.1;dsimp only at this;omega);obtain ⟨p,rfl⟩:=Rf (show 0≤p by have:=hp.1;dsimp only at this;omega);have hn:n<9:=by have:=hs.2;dsimp only at this;omega
 have LJ:p<9:=by have:=hp.2;dsimp only at this;omega
 obtain ⟨c0,c1,c2⟩:=hR.Hi hn LJ;have hb:=hR.lt
 have HL:Hid (heard R ⟨k,p,n,q,nm,ss⟩=(let x:=R.sub n p
   if !x.there then 8 else if k=10∧x.ZQ=true then 9 else if k=11∧x.ZQ=false then 11 else if k≠12 then 0
   else if ZH R ⟨k,p,n,q,nm,ss⟩≠0 then ZH R ⟨k,p,n,q,nm,ss⟩ else if x.want=q then 9 else 0)):=rfl
 clear hR hs hp;dsimp only at CL HL ⊢;generalize ZH R ⟨k,p,n,q,nm,ss⟩=ly at *
 generalize heard R ⟨k,p,n,q,nm,ss⟩=hd at *
 generalize (R.sub n p).there=t0 at *
 generalize (R.sub n p).ZQ=t1 at *
 generalize (R.sub n p).want=t2 at *
 go_enter Tryz.func165,Tryz.ntmps165;go_wp2
 go_region
 go_wp2_with (go_at_call 164;refine (CL.o _ vN).mono ?_;rintro e w1 ⟨rfl,YY⟩;obtain ⟨L_,Kb⟩:=SY YY)
 all_goals (go_ret;refine ⟨YW ?_,?_⟩)
 all_goals try (refine Below.trans ?_ (YY.mono Ug))
 all_goals try (refine Below.drew ?_)
 all_goals try (refine Below.alloc (Below.alloc (YJ _ _) (Zw _) _) Zi _)
 all_goals (rw [HL.o];first|(simp [*];done)|(simp_all;done)|skip)
end Go.Proofs.Rm
namespace Go.Proofs.Rm
open Go.RowKit Go.Proofs.Heap Go.Proofs.Mem
theorem rQ (b:Nat) (R:Room) (o:Op) (sa ba:Option Addr) (sl sc bl bc:Nat) (w:World) (hR:ZT w b R) (hs:1≤o.source∧o.source<9) (hp:1≤o.peer∧o.peer<9) :
  Calls Tryz.prog 135 (Qi (some ⟨b,0,none⟩) (Jo o sa sl sc ba bl bc)) w fun e w'=>e = .returned (.int .i64 (about R o))∧Below w w w':=by
 have CL:=Zh (fun (w1:World) (h:Below w w w1)=>Ep b R o sa ba sl sc bl bc w1 (hR.below h) hs);have CH:=Zh (fun (w1:World) (h:Below w w w1)=>sk b R o sa ba sl sc bl bc w1 (hR.below h) hs hp);obtain ⟨k,p,n,q,nm,ss⟩:=o;obtain ⟨n,rfl⟩:=Rf (show 0≤n by have:=hs.1;dsimp only at this;omega);obtain ⟨p,rfl⟩:=Rf (show 0≤p by have:=hp.1;dsimp only at this;omega);have hn:n<9:=by have:=hs.2;dsimp only at this;omega
 have LJ:p<9:=by have:=hp.2;dsimp only at this;omega
 obtain ⟨c0,c1,c2⟩:=hR.Hi hn LJ;obtain ⟨s0,s1,s2,s3,s4⟩:=hR.ML hn;have hb:=hR.lt
 have HL:Hid (about R ⟨k,p,n,q,nm,ss⟩=(if k=5∨k=8∨k=9 then
   (if (R.src n).own≠p then 10 else if k=8∧(R.src n).ZE=true then 9 else if k=9∧(R.src n).ZE=false then 11 else 0)
  else if k=6 then (if (R.src n).own=p then 10 else if (R.sub n p).there then 9 else ZH R ⟨k,p,n,q,nm,ss⟩)
  else heard R ⟨k,p,n,q,nm,ss⟩)):=rfl
 obtain ⟨va,vc,H_,hx⟩:=hR.rows n hn;rw [H_] at s3;clear hR hs hp H_ hx;dsimp only at CL CH HL ⊢;generalize ZH R ⟨k,p,n,q,nm,ss⟩=ly at *
 generalize heard R ⟨k,p,n,q,nm,ss⟩=hd at *
 generalize about R ⟨k,p,n,q,nm,ss⟩=ab at *
 generalize (R.sub n p).there=t0 at *
 generalize (R.src n).there=u0 at *
 generalize (R.src n).num=u1 at *
 generalize (R.src n).own=u2 at *
 generalize (R.src n).ZE=u4 at *
 generalize (R.src n).ss.length=vl at *
 go_enter Tryz.func135,Tryz.ntmps135;go_wp2
 go_region
 go_wp2_with (first|(go_at_call 164;refine (CL.o _ vN).mono ?_;rintro e w1 ⟨rfl,YY⟩)|(go_at_call 165;refine (CH.o _ vN).mono ?_;rintro e w1 ⟨rfl,YY⟩))
 all_goals try (go_region;go_wp2_with (first|(go_at_call 164;refine (CL.o _ vN).mono ?_;rintro e w1 ⟨rfl,YY⟩)|(go_at_call 165;refine (CH.o _ vN).mono ?_;rintro e w1 ⟨rfl,YY⟩)))
 all_goals (go_ret;refine ⟨YW ?_,?_⟩)
 all_goals try (refine Below.trans ?_ (YY.mono Ug))
 all_goals try (refine Below.drew ?_)
 all_goals try (refine Below.drew ?_)
 all_goals try (refine Below.alloc (Below.alloc (YJ _ _) (Zw _) _) Zi _)
 all_goals try (rw [HL.o];first|(simp [*];done)|(simp_all;done)|skip)
 go_goals
theorem sM {l:List Int} {x:Int}:decide (0≤index l x)=l.contains x:=by
 unfold index;cases h:l.findIdx? (fun y=>y == x) with
 | none=>
  have:=List.findIdx?_eq_none_iff.1 h
  have hx:l.contains x=false:=by
   rw [KM];intro hc;have:=this x (by simpa using hc);simp at this
  rw [hx];rfl
 | some i=>
  have hx:l.contains x=true:=by
   obtain ⟨hi,h1,_⟩:=List.findIdx?_eq_some_iff_getElem.1 h;have:l[i]=x:=by simpa using h1
   rw [List.contains_iff_mem,←this];exact PA hi
  rw [hx];simp
theorem Bn (v:Value) (l:List Int) (x:Int) (w:World) (hv:XR w v l.length (YO l)) :
  Calls Tryz.prog 163 #[v,.int .u32 x] w fun e w'=>e = .returned (.bool (l.contains x))∧w=w':=by
 have CI:=Zh (DJ v l x w hv);have HN:Hid (decide (0≤index l x)=l.contains x):=sM;clear hv;generalize index l x=q at *
 go_enter Tryz.func163,Tryz.ntmps163;go_wp2_with (go_at_call 156;refine CI.o.mono ?_;rintro e w1 ⟨rfl,rfl⟩)
 all_goals go_ret
 all_goals exact ⟨Xw (by rw [←HN.o]),rfl⟩
theorem qf {w:World} {g off n cap:Nat} {l:List Int} (h:XR w (.slice (some ⟨g,off,none⟩) n cap) l.length (YO l)) (k:Nat) (hk:k≤l.length):XR w (.slice (some ⟨g,off,none⟩) k cap) (l.take k).length (YO (l.take k)):=by
 obtain ⟨a,cap',hv,h1,h2,h3,h4⟩:=h;injection hv with ha hn hc
 subst hc;have hl:(l.take k).length=k:=by rw [S4];omega
 refine ⟨some ⟨g,off,none⟩,cap,by rw [hl],by rw [hl];omega,h2,(fun h=>by cases h),?_⟩;by_cases hz:k=0
 ·subst hz;exact Ws rfl
 ·rcases h4 with h4|⟨b,o,NS,PV,R4⟩
  ·have:(YO l).length=0:=by rw [h4];rfl
   rw [VV] at this;omega
  ·refine Wh ⟨b,o,by rw [ha,NS],PV,fun j hj=>?_⟩;rw [VV,hl] at hj;rw [R4 j (by rw [VV];omega)];simp [YO,List.getElem?_take_of_lt hj]
theorem A8 (R:Room) (l:List Int) (k:Nat):Vv R l k=((of R (l.getD k 0)).2.2 || (l.take k).contains (l.getD k 0)):=rfl
theorem Fu (b:Nat) (R:Room) (o:Op) (sa ba:Option Addr) (sc bl bc:Nat) (w:World) (hR:ZT w b R) (hs:1≤o.source∧o.source<9)
  (ZY:XR w (.slice sa o.ZK.length sc) o.ZK.length (YO o.ZK)) :
  Calls Tryz.prog 134 (Qi (some ⟨b,0,none⟩) (Jo o sa o.ZK.length sc ba bl bc)) w fun e w'=>e = .returned (.int .i64 (VR R o))∧Below w w w':=by
 have CO:=Zh (fun (w1:World) (x:Int) (h:Below w w w1)=>JZ b R x w1 (hR.below h));obtain ⟨kd,p,n,q,nm,ss⟩:=o;obtain ⟨n,rfl⟩:=Rf (show 0≤n by have:=hs.1;dsimp only at this;omega);have hn:n<9:=by have:=hs.2;dsimp only at this;omega
 obtain ⟨s0,s1,s2,s3,s4⟩:=hR.ML hn;have hb:=hR.lt;have HP:Hid (VR R ⟨kd,p,n,q,nm,ss⟩=(if ss.length<1∨3<ss.length then 5 else if ss.any (fun s=>decide (s<2) || decide (3221225472≤s)) then 5 else if (R.src n).there then 9 else if (List.range ss.length).any (Vv R ss) then 9 else 0)):=rfl;dsimp only at *
 have hlen:=ZY.len;clear hR hs s1 s2 s3 s4;generalize VR R ⟨kd,p,n,q,nm,ss⟩=Dc at *
 generalize (R.src n).there=u0 at *
 by_cases h1:ss.length<1
 ·have HF:Hid (Dc=5):=by show _=_;rw [HP.o,ZR (Ws h1)]
  exact f_
 by_cases h2:3<ss.length
 ·have HF:Hid (Dc=5):=by show _=_;rw [HP.o,ZR (Wh h2)]
  exact f_
 have mn:Hid (Dc=(if ss.any (fun s=>decide (s<2) || decide (3221225472≤s)) then 5 else if u0 then 9 else if (List.range ss.length).any (Vv R ss) then 9 else 0)):=by
  show _=_;rw [HP.o,Z4 Zo]
 obtain ⟨g,off,cap,e1,_,_,hg,Yu⟩:=Ps ZY Zo;cases e1;have HC:=Zh Yu;have U':=Zh ZY;clear Yu ZY HP;go_enter Tryz.func134,Tryz.ntmps134;go_wp2
 go_loop [25] (fun i=>∃ k:Nat,k≤ss.length∧i = .int .i64 k∧Hid (∀ j,j<k→2≤ss.getD j 0∧ss.getD j 0<3221225472)) (fun i=>ss.length-(intOf i).toNat)
 case atStart=>exact ⟨0,Tk _,rfl,fun j hj=>by omega⟩
 case round=>
  obtain ⟨k,hk,rfl,KA⟩:=hrel;by_cases VK:k<ss.length
  ·exact Yx45
  ·have bf:Hid (Dc=if u0 then 9 else if (List.range ss.length).any (Vv R ss) then 9 else 0):=by
    exact fE
   clear KA mn;cases u0
   ·have HP4:Hid (Dc=if (List.range ss.length).any (Vv R ss) then 9 else 0):=by show _=_;rw [bf.o];rfl
    clear bf;go_wp2;go_quiet (fail)
    go_wp2;go_loopw [47] (fun i w'=>∃ k:Nat,k≤ss.length∧i = .int .i64 k∧Below w w w'∧w.heap.size<w'.heap.size∧w'.cell? ⟨w,5,none⟩=some (.slice (some ⟨g,off,none⟩) ss.length sc)∧Hid (∀ j,j<k→Vv R ss j=false)) (fun i _=>ss.length-(intOf i).toNat)
    case atStart=>exact ⟨0,Tk _,rfl,below_drewN (Z' _ _) _,by simp,by simp,fun j hj=>by omega⟩
    case round=>
     obtain ⟨k,hk,rfl,W8,TR,Ck,KA⟩:=hrel;by_cases VK:k<ss.length
     ·have Ek:=U'.o.below W8;obtain ⟨g',off',cap',e1,_,_,hg',Yu⟩:=Ps Ek Zo;cases e1;have hc:=Yu k VK;have eJ:=Zh (CO.o wr (ss.getD k 0) W8)
      have CC:Hid (∀ w1,Below wr wr w1→Calls Tryz.prog 163 #[.slice (some ⟨g,off,none⟩) k sc,.int .u32 (ss.getD k 0)] w1 fun e w'=>e = .returned (.bool ((ss.take k).contains (ss.getD k 0)))∧w1=w'):=
       fun w1 h=>Bn _ (ss.take k) _ w1 (qf (Ek.below h) k hk)
      have iQ:=Zh (A8 R ss k)
      have mj:Hid (Vv R ss k=true→Dc=9):=by
       intro h;rw [HP4.o,ZR];rw [List.any_eq_true];exact ⟨k,by simpa using VK,h⟩
      clear Yu Ek;generalize of R (ss.getD k 0)=O at *
      obtain ⟨o1,o2,o3⟩:=O;dsimp only at eJ iQ;generalize j3:(ss.take k).contains (ss.getD k 0)=cn at *
      clear j3;generalize ss.getD k 0=x at *
      cases o3
      ·cases cn
       ·have HF:Hid (Vv R ss k=false):=by show _=_;rw [iQ.o];rfl
        go_wp2_with (first|(go_at_call 127;refine eJ.o.mono ?_;rintro e w2 ⟨rfl,Y7⟩;have Jz:=(Y7.cell (p:=⟨w,5,none⟩) TR).trans Ck)|(go_at_call 163;refine (CC.o _ Y7).mono ?_;rintro e w3 ⟨rfl,rfl⟩))
        exact fC
       ·have HF:=Zh (mj.o (by rw [iQ.o];rfl));go_wp2_with (first|(go_at_call 127;refine eJ.o.mono ?_;rintro e w2 ⟨rfl,Y7⟩;have Jz:=(Y7.cell (p:=⟨w,5,none⟩) TR).trans Ck)|(go_at_call 163;refine (CC.o _ Y7).mono ?_;rintro e w3 ⟨rfl,rfl⟩))
        go_ret;exact ⟨YW HF.o.symm,W8.trans (Y7.mono W8.size)⟩
      ·have HF:=Zh (mj.o (by rw [iQ.o];rfl));go_wp2_with (first|(go_at_call 127;refine eJ.o.mono ?_;rintro e w2 ⟨rfl,Y7⟩;have Jz:=(Y7.cell (p:=⟨w,5,none⟩) TR).trans Ck))
       go_ret;exact ⟨YW HF.o.symm,W8.trans (Y7.mono W8.size)⟩
     ·exact fH
   ·have HF:Hid (Dc=9):=by show _=_;rw [bf.o];rfl
    go_wp2;go_quiet (fail)
    go_wp2;go_ret;exact ⟨YW HF.o.symm,below_drewN (Z' _ _) _⟩
end Go.Proofs.Rm
