/- Part of a proof. -/
import Derived.Test.YtpdjhlcbcomdkaaGreatDoorF0R
set_option linter.unusedVariables false
set_option linter.unusedSimpArgs false
set_option maxRecDepth 100000
set_option maxHeartbeats 16000000
open Go Go.Q Go.Qr
namespace Go.Proofs.Rm
open Go.RowKit Go.Proofs.Heap Go.Proofs.Mem
theorem JC {a b:ByteArray} (h:a=b):Ending.returned (.string a) = .returned (.string b):=by rw [h]
theorem YB {a b:Bool} (h:a=b):Ending.returned (.bool a) = .returned (.bool b):=by rw [h]
theorem Y5 {k:IntKind} {a b:Int} (h:a=b):Ending.returned (.int k a) = .returned (.int k b):=by rw [h]
theorem XO (n k:Int):WB n k=true↔1≤n∧n<k:=by unfold WB;simp
theorem MU (n k:Int) (w:World):Calls Tryz.prog 111 (Qz n k) w fun e w'=>e = .returned (.bool (WB n k))∧w=w':=by
 have hi:=XO n k
 by_cases h:1≤n
 ·have HF:Hid (WB n k=decide (n<k)):=by show _=_;unfold WB;simp [h]
  clear hi
  go_enter Tryz.func111,Tryz.ntmps111
  go_wp2
  go_ret
  exact ⟨YB HF.o.symm,rfl⟩
 ·have HF:Hid (WB n k=false):=by show _=_;rw [Ls,ne_eq,hi];omega
  clear hi
  go_enter Tryz.func111,Tryz.ntmps111
  go_wp2
  go_ret
  exact ⟨YB HF.o.symm,rfl⟩
theorem tO (l:List UInt8):(str l).toList=[]↔l=[]:=by
 rw [toList_nil_iff_emptyBytes]
 constructor
 ·intro h
  have:=congrArg (fun b:ByteArray=>b.data.toList) h
  simpa [str] using this
 ·intro h;subst h;rfl
theorem JE (l:List UInt8):(str l).toList.isEmpty=l.isEmpty:=by
 rw [Bool.eq_iff_iff,List.isEmpty_iff,List.isEmpty_iff,tO]
theorem U6 (b:Nat) (R:Room) (p:Int) (w:World) (hR:Z4 w b R):Calls Tryz.prog 80 (Ql (some ⟨b,0,none⟩) p) w fun e w'=>e = .returned (.bool (Zz R p))∧w=w':=by
 have C:=Zh (fun w=>MU p 9 w)
 by_cases hi:WB p 9=true
 ·rw [hi] at C
  obtain ⟨h1,h2⟩:=(XO p 9).1 hi
  obtain ⟨n,rfl⟩:=Rn (show 0≤p by omega)
  have hn:n<9:=by omega
  have hc:=hR.BS hn
  have HF:Hid (Zz R n = !(str (R.names n)).toList.isEmpty):=by show _=_;unfold Zz;rw [hi,Xf,JE,Bool.true_and]
  clear hi hR
  go_enter Tryz.func80,Tryz.ntmps80
  go_wp2_with (go_at_call 111;refine (C.o _).mono ?_;rintro e w' ⟨rfl,rfl⟩)
  all_goals go_ret
  all_goals exact ⟨YB (by rw [HF.o]),rfl⟩
 ·have hi:WB p 9=false:=by simpa using hi
  have HF:Hid (Zz R p=false):=by show _=_;unfold Zz;rw [hi];rfl
  rw [hi] at C
  clear hi
  go_enter Tryz.func80,Tryz.ntmps80
  go_wp2_with (go_at_call 111;refine (C.o _).mono ?_;rintro e w' ⟨rfl,rfl⟩)
  go_ret
  exact ⟨YB HF.o.symm,rfl⟩
theorem D5 (b:Nat) (R:Room) (p n:Nat) (w:World) (hR:Z4 w b R) (hn:n<9) (hp:p<9) :
  Calls Tryz.prog 139 (Qs (some ⟨b,0,none⟩) p n) w fun e w'=>e = .returned (.agg (Qi 2 p n 0 0))∧Z4 w' b (R.ZZ n p VJ)∧Fr w (· = b) w w':=by
 obtain ⟨c0,c1,c2⟩:=hR.IP hn hp
 have f0:=hR.YS (54+n*27+p*3)
 have f1:=hR.YS (54+n*27+p*3+1)
 have f2:=hR.YS (54+n*27+p*3+2)
 have hb:=hR.lt
 go_enter Tryz.func139,Tryz.ntmps139
 go_wp2
 refine VR (v:= .agg (Qi 2 p n 0 0)) (by simp [results,Tryz.results139,go_sem]) rfl ⟨rfl,?_,?_⟩
 ·exact (hR.ZZ hn hp VJ).below (Z' _ _)
 ·exact ((((Fr.refl _ _ _).setAt _ _).setAt _ _).setAt _ _).alloc (by simp only [size_setCell];exact ZB _) _
theorem A5 (b:Nat) (R:Room) (p n:Nat) (w:World) (hR:Z4 w b R) (hn:n<9) (hp:p<9) (hw:0≤(R.sub n p).want∧(R.sub n p).want<(R.src n).ss.length) :
  Calls Tryz.prog 166 (Qs (some ⟨b,0,none⟩) p n) w fun e w'=>e = .returned (WG (asks R p n))∧Below w w w':=by
 obtain ⟨c0,c1,c2⟩:=hR.IP hn hp
 obtain ⟨s0,s1,s2,s3,s4⟩:=hR.Nw hn
 obtain ⟨k,hk⟩:=Rn hw.1
 rw [hk] at hw c2
 have W_:k<(R.src n).ss.length:=by omega
 obtain ⟨g,off,cap,Kg,hlc,xH,hg,YX⟩:=RQ (hR.rows n hn) Zo
 have hx:=YX k W_
 have HA:Hid (asks R p n=⟨9,(R.src n).own,n,0,(R.src n).ss.getD k 0⟩):=by show _=_;unfold asks;rw [hk];rfl
 rw [Kg] at s3
 have hb:=hR.lt
 have hlen:=(hR.rows n hn).len
 clear hk YX Kg hR
 generalize (R.src n).ss.getD k 0=X at *
 generalize (R.src n).ss.length=L at *
 generalize (R.src n).own=O at *
 go_enter Tryz.func166,Tryz.ntmps166
 go_wp2
 go_region
 go_wp2
 refine VR (v:=WG ⟨9,O,n,0,X⟩) (by simp [results,Tryz.results166,go_sem,WG]) rfl ⟨by rw [HA.o],?_⟩
 exact (((YG _ _).alloc (ZB _) _).alloc Zi _).drew
theorem La (b:Nat) (R:Room) (p n:Nat) (w:World) (hR:Z4 w b R) (hn:n<9) (hp:p<9) (hw:0≤(R.sub n p).want∧(R.sub n p).want<(R.src n).ss.length) :
  Calls Tryz.prog 141 (Qs (some ⟨b,0,none⟩) p n) w fun e w'=>(∃ v,e = .returned v∧YM w' v (waits R p n))∧Below w w w':=by
 obtain ⟨c0,c1,c2⟩:=hR.IP hn hp
 obtain ⟨s0,s1,s2,s3,s4⟩:=hR.Nw hn
 have hb:=hR.lt
 have ca:=fun w hR=>A5 b R p n w hR hn hp hw
 unfold WG at ca
 have CA:=Zh ca
 clear ca
 have HR:=Zh hR
 have HW:Hid (waits R p n=if (R.sub n p).ZR || (R.src n).ZE then [] else [asks R p n]):=rfl
 clear hR hw
 generalize asks R p n=A at *
 obtain ⟨a1,a2,a3,a4,a5⟩:=A
 dsimp only at CA
 cases mf:(R.sub n p).ZR
 ·rw [mf] at c1
  cases r_:(R.src n).ZE
  ·rw [r_] at s4
   have HF:Hid (waits R p n=[⟨a1,a2,a3,a4,a5⟩]):=by show _=_;rw [HW.o,mf,r_];rfl
   clear mf r_ HW
   go_enter Tryz.func141,Tryz.ntmps141
   go_wp2_with (go_at_call 166;refine (CA.o _ HR.o).mono ?_;rintro e w1 ⟨rfl,Zj⟩)
   go_ret
   refine ⟨⟨_,rfl,?_⟩,Zj.alloc (by simp [Zj.size]) _⟩
   rw [HF.o]
   exact Mh w1 _ 1 _ Zd
  ·rw [r_] at s4
   have HF:Hid (waits R p n=[]):=by show _=_;rw [HW.o,mf,r_];rfl
   clear mf r_ HW
   exact lg
 ·rw [mf] at c1
  have HF:Hid (waits R p n=[]):=by show _=_;rw [HW.o,mf];rfl
  clear mf HW
  exact lg
theorem index_hit {l:List Int} {x:Int} {k:Nat} (hk:k<l.length) (h:l.getD k 0=x) (hn:∀ j,j<k→l.getD j 0≠x):index l x=k:=by
 unfold index
 have:l.findIdx? (fun y=>y == x)=some k:=by
  rw [List.findIdx?_eq_some_iff_getElem]
  refine ⟨hk,?_,fun j hj=>?_⟩
  ·rw [Sq,VQ hk] at h
   simpa using h
  ·have:=hn j hj
   rw [Sq,VQ Zo] at this
   simpa using this
 rw [this]
theorem zh {l:List Int} {x:Int} (hn:∀ j,j<l.length→l.getD j 0≠x):index l x = -1:=by
 unfold index
 have:l.findIdx? (fun y=>y == x)=none:=by
  rw [List.findIdx?_eq_none_iff]
  intro y hy
  obtain ⟨j,hj,rfl⟩:=List.getElem_of_mem hy
  have:=hn j hj
  rw [Sq,VQ hj] at this
  simpa using this
 rw [this]
theorem E1 (v:Value) (l:List Int) (x:Int) (w:World) (hv:Yf w v l.length (Zb l)) :
  Calls Tryz.prog 156 #[v,.int .u32 x] w fun e w'=>e = .returned (.int .i64 (index l x))∧w=w':=by
 have hlen:=hv.len
 by_cases h0:0<l.length
 ·obtain ⟨g,off,cap,rfl,hlc,xH,hg,YX⟩:=QF hv h0
  have HC:=Zh YX
  have HH:=Zh (fun k hk h hn=>@index_hit l x k hk h hn)
  have HM:=Zh (@zh l x)
  clear YX hv
  go_enter Tryz.func156,Tryz.ntmps156
  go_wp2
  go_loop [8] (fun i=>∃ k:Nat,k≤l.length∧i = .int .i64 k∧Hid (∀ j,j<k→l.getD j 0≠x)) (fun i=>l.length-(intOf i).toNat)
  case atStart=>exact ⟨0,TS _,rfl,fun j hj=>by omega⟩
  case round=>
   obtain ⟨k,hk,rfl,Le⟩:=hrel
   by_cases W_:k<l.length
   ·have hc:=HC.o k W_
    by_cases hx:l.getD k 0=x
    ·have HF:=Zh (HH.o k W_ hx Le.o)
     rw [hx] at hc
     clear hx
     go_wp2
     go_ret
     exact ⟨Y5 HF.o.symm,rfl⟩
    ·have hbeq:(x == l.getD k 0)=false:=by rw [WT];exact fun e=>hx e.symm
     have HX:=Zh hx
     clear hx
     generalize hy:l.getD k 0=y at *
     have HY:=Zh hy
     clear hy
     go_wp2
     go_round
     case rel=>exact ⟨k+1,Zo,Zn,fun j hj=>by by_cases Ke:j<k;exact Le.o j Ke;rw [show j=k by omega,HY.o];exact HX.o⟩
     case measure=>simp [intOf];omega
   ·have HF:=Zh (HM.o (fun j hj=>Le.o j Zo))
    go_wp2
    go_ret
    exact ⟨Y5 HF.o.symm,rfl⟩
 ·have:l=[]:=DM Zo
  subst this
  obtain ⟨a,cap,rfl,_⟩:=hv
  go_enter Tryz.func156,Tryz.ntmps156
  go_wp2
  go_loop [8] (fun i=>i = .int .i64 0) (fun _=>0)
  case atStart=>rfl
  case round=>
   subst hrel
   go_wp2
   go_ret
   exact ⟨rfl,rfl⟩
def WE (R:Room):Array Value:=((List.range 45).map fun j=>Xn R (9+j)).toArray
theorem Sj (R:Room):(WE R).size=45:=by simp [WE]
theorem M6 (R:Room) (j:Nat) (h:j<45):(WE R)[j]?=some (Xn R (9+j)):=by simp [WE,h]
theorem Ml (R:Room) (n:Nat) (h:n<9):(WE R).extract (n*5) (n*5+5)=(Jf (R.src n).there (R.src n).num (R.src n).own (R.src n).sv (R.src n).ZE):=by
 apply Array.ext'
 rw [Array.toList_extract]
 apply List.ext_getElem?
 intro i
 by_cases hi:i<5
 ·have:((WE R).toList.extract (n*5) (n*5+5))[i]?=(WE R)[n*5+i]?:=by
   rw [List.extract_eq_take_drop,List.getElem?_take_of_lt Zo,List.getElem?_drop];simp
  rw [this,M6 R _ Zo,show 9+(n*5+i)=9+n*5+i by omega,K3 R h hi]
  have:i=0∨i=1∨i=2∨i=3∨i=4:=by omega
  rcases this with rfl|rfl|rfl|rfl|rfl <;> rfl
 ·rw [List.getElem?_eq_none (by rw [List.extract_eq_take_drop,TU];omega),List.getElem?_eq_none VB]
theorem KE (b:Nat) (R:Room) (x:Int) (w:World) (hR:Z4 w b R) :
  Calls Tryz.prog 127 (Jc (some ⟨b,0,none⟩) x) w fun e w'=>e = .returned (.tuple (Q1 (of R x).1 (of R x).2.1 (of R x).2.2))∧Below w w w':=by
 have SK:∀ j,j<(WE R).size→w.cell? ⟨b,9+j,none⟩=(WE R)[j]?:=by
  intro j hj
  rw [Sj] at hj
  rw [hR.cell Zo,M6 R j hj]
 have UQ:(Tryz.prog.info? 146).map (·.size)=some (WE R).size:=by rw [Sj];kernel_rfl
 have HP:Hid (∀ n:Nat,n<9→∀ w,(Instr.index 146 (.agg (WE R)) (.int .i64 (n:Int))).run Tryz.prog w = .ok (.agg (Jf (R.src n).there (R.src n).num (R.src n).own (R.src n).sv (R.src n).ZE)) w):=
  fun n hn w=>yC.Np w 146 145 9 (WE R) n 5 _ Tryz.underlying146 hn Tryz.underlying145 rfl Zg _ (Ml R n hn)
 have HR:=Zh hR
 have hb:=hR.lt
 have HO:Hid (of R x=SH R x 9 0):=rfl
 have HS:Hid (∀ k n:Nat,SH R x (k+1) n=if (R.src n).there && decide (0≤index (R.src n).ss x) then ((n:Int),index (R.src n).ss x,true) else SH R x k (n+1)):=fun _ _=>rfl
 have HZ:Hid (∀ n:Nat,SH R x 0 n=(0,0,false)):=fun _=>rfl
 clear hR
 generalize WE R=CS at *
 go_enter Tryz.func127,Tryz.ntmps127
 go_wp2_with (refine yC.Ty rfl 146 (.tmp 14) rfl b 9 rfl CS (.array 9 145) SK Tryz.underlying146 rfl UQ ?_)
 clear SK UQ
 go_loopw [16] (fun i w'=>∃ k:Nat,k≤9∧i = .int .i64 k∧Below w w w'∧Hid (of R x=SH R x (9-k) k)) (fun i _=>9-(intOf i).toNat)
 case atStart=>exact ⟨0,Zo,rfl,YG _ _,HO.o⟩
 case round=>
  obtain ⟨k,hk,rfl,XS,hof⟩:=hrel
  by_cases VD:k<9
  ·have oK:=HP.o k VD
   have hRr:=HR.o.below XS
   have CI:=Zh (fun (w1:World) (h:Below wr wr w1)=>E1 (R.src k).sv (R.src k).ss x w1 ((hRr.rows k VD).below h).r)
   have HE:=HS.o (8-k) k
   rw [show 8-k+1=9-k by omega] at HE
   have yq:=Zh HE
   obtain ⟨sa,dR,Kg,Tm⟩:=hRr.rows k VD
   clear Tm
   rw [Kg] at oK CI
   clear HE hRr Kg
   generalize index (R.src k).ss x=q at *
   generalize (R.src k).ss.length=sl at *
   generalize (R.src k).num=nm at *
   generalize (R.src k).own=ow at *
   generalize (R.src k).ZE=mt at *
   by_cases ht:(R.src k).there=true∧0≤q
   ·have HF:Hid (of R x=((k:Int),q,true)):=by
     show _=_
     rw [hof.o,yq.o,ht.1];simp [ht.2]
    obtain ⟨ht1,ht2⟩:=ht
    rw [ht1] at oK
    clear ht1
    go_wp2_with (go_at_call 156;refine (CI.o _ (Z' _ _)).mono ?_;rintro e w1 ⟨rfl,rfl⟩)
    go_ret3
    exact ⟨by rw [HF.o];rfl,XS.trans ((Z' _ _).mono XS.size)⟩
   ·have HF:Hid (of R x=SH R x (9-(k+1)) (k+1)):=by
     show _=_
     rw [hof.o,yq.o,Z6 (by simpa using ht),show 8-k=9-(k+1) by omega]
    cases fB:(R.src k).there
    ·exact kF
    ·have ht2:q<0:=by
      rw [fB] at ht;simp at ht;exact ht
     exact kF
  ·have HF:Hid (of R x=(0,0,false)):=by
    show _=_
    rw [hof.o,show 9-k=0 by omega,HZ.o]
   go_wp2
   go_ret3
   exact ⟨by rw [HF.o];rfl,XS⟩
theorem EO (v:Value) (l:List Int) (w:World) (hv:Yf w v l.length (Zb l)) (hl:l.length≤1000000) :
  Calls Tryz.prog 112 #[v] w fun e w'=>(∃ v',e = .returned v'∧Row w' 66 v' l.length (Zb l))∧Below w w w':=by
 obtain ⟨a,cap,rfl,Tm,OY,OG,MA⟩:=id hv
 have HV:=Zh hv
 have HN:=Zh OG
 clear hv MA Tm OY OG
 cases a with
 | none=>
  obtain ⟨h1,h2⟩:=HN.o rfl
  have HL:Hid (l=[]):=DM h1
  have he:=fun w=>Lib.run_eql_slice_nil (P:=Tryz.prog) w 29 66 none l.length cap 0 0 Tryz.underlying29
  clear h1 h2
  go_enter Tryz.func112,Tryz.ntmps112
  go_wp2
  go_ret
  exact ⟨⟨_,rfl,by rw [HL.o];exact Row.nil _ _⟩,YG _ _⟩
 | some a=>
  have he:=fun w=>Lib.run_eql_slice_nil (P:=Tryz.prog) w 29 66 (some a) l.length cap 0 0 Tryz.underlying29
  clear HN
  go_enter Tryz.func112,Tryz.ntmps112
  go_wp2_with (at_builtin;refine Re rfl (.tmp 5) (.tmp 6) 29 rfl w.heap.size V4 _ 0 [] rfl (Tn w 66 1) _ l.length (Zb l) rfl (HV.o.below (Z' _ _)) (by rw [Wx];omega) (RR l) Zo Zo Zi (fun v' w1 HO HG=>?_))
  go_ret
  have hb:=((Fr.refl w.heap.size Lm w).alloc (ZB _) (.cells #[] 66)).grown HG.o Zi (by
   intro k hk
   have hk:some w.heap.size=some k:=hk
   cases hk
   exact ZB _)
  refine ⟨⟨_,rfl,?_⟩,hb.below⟩
  have:=Row.ZV HO.o
  rwa [OD,KF] at this
theorem I7 (b:Nat) (R:Room) (p n:Int) (w:World) (hR:Z4 w b R) :
  Calls Tryz.prog 83 (Qs (some ⟨b,0,none⟩) p n) w fun e w'=>
   e = .returned (.tuple (Qx (if ZH R p n then (Qg p n (R.sub n.toNat p.toNat).want (R.sub n.toNat p.toNat).ZR) else (Qg 0 0 0 false)) (ZH R p n)))∧Below w w w':=by
 have CP:=Zh (fun w=>MU p 9 w)
 have CN:=Zh (fun w=>MU n 9 w)
 have hb:=hR.lt
 have HH:Hid (ZH R p n=(WB p 9 && WB n 9 && (R.sub n.toNat p.toNat).there)):=rfl
 by_cases hp:WB p 9=true
 ·by_cases hn:WB n 9=true
  ·obtain ⟨h1,h2⟩:=(XO p 9).1 hp
   obtain ⟨h3,h4⟩:=(XO n 9).1 hn
   obtain ⟨p,rfl⟩:=Rn (show 0≤p by omega)
   obtain ⟨n,rfl⟩:=Rn (show 0≤n by omega)
   rw [Xf,Xf] at HH ⊢
   rw [hp] at CP HH
   rw [hn] at CN HH
   obtain ⟨c0,c1,c2⟩:=hR.IP (n:=n) (p:=p) Zo Zo
   clear hp hn hR
   cases ht:(R.sub n p).there
   ·rw [ht] at c0
    have HF:Hid (ZH R p n=false):=by show _=_;rw [HH.o,ht];rfl
    rw [HF.o]
    clear ht
    exact kS
   ·rw [ht] at c0
    have HF:Hid (ZH R p n=true):=by show _=_;rw [HH.o,ht];rfl
    rw [HF.o]
    clear ht
    go_enter Tryz.func83,Tryz.ntmps83
    go_wp2_with fail
    refine (CP.o _).mono ?_
    rintro e w1 ⟨rfl,rfl⟩
    go_wp2_with fail
    refine (CN.o _).mono ?_
    rintro e w1 ⟨rfl,rfl⟩
    go_wp2_with fail
    refine VR (v:= .tuple (Qx (Qg p n (R.sub n p).want (R.sub n p).ZR) true)) (by simp [results,Tryz.results83,go_sem]) rfl ⟨rfl,?_⟩
    repeat (first|exact YG _ _|refine Below.drew ?_|refine Below.alloc ?_ Zi _)
  ·have hn:WB n 9=false:=by simpa using hn
   have HF:Hid (ZH R p n=false):=by show _=_;rw [HH.o,hp,hn];rfl
   rw [HF.o]
   rw [hp] at CP
   rw [hn] at CN
   clear hp hn hR
   exact kS
 ·have hp:WB p 9=false:=by simpa using hp
  have HF:Hid (ZH R p n=false):=by show _=_;rw [HH.o,hp];rfl
  rw [HF.o]
  rw [hp] at CP
  clear hp hR
  go_enter Tryz.func83,Tryz.ntmps83
  go_wp2_with fail
  refine (CP.o _).mono ?_
  exact bf
theorem E2 (b:Nat) (R:Room) (n:Int) (w:World) (hR:Z4 w b R) (h:(WB n 9 && (R.src n.toNat).there)=false) :
  Calls Tryz.prog 81 (Ql (some ⟨b,0,none⟩) n) w fun e w'=>
   e = .returned (.tuple (Qx (Qj 0 0 none 0 0 false) false))∧Below w w w':=by
 have CN:=Zh (fun w=>MU n 9 w)
 have hb:=hR.lt
 by_cases hn:WB n 9=true
 ·obtain ⟨h3,h4⟩:=(XO n 9).1 hn
  obtain ⟨n,rfl⟩:=Rn (show 0≤n by omega)
  rw [hn,Xf,Bool.true_and] at h
  obtain ⟨s0,s1,s2,s3,s4⟩:=hR.Nw (n:=n) Zo
  rw [h] at s0
  exact bn
 ·have hn:WB n 9=false:=by simpa using hn
  exact bn
theorem Hj (b:Nat) (R:Room) (n:Nat) (w:World) (hR:Z4 w b R) (hn:1≤n∧n<9) (h:(R.src n).there=true) (hl:(R.src n).ss.length≤1000000) :
  Calls Tryz.prog 81 (Ql (some ⟨b,0,none⟩) n) w fun e w'=>
   (∃ v',e = .returned (.tuple (Qx #[.int .i64 (R.src n).num,.int .i64 (R.src n).own,v',.bool (R.src n).ZE] true))∧Row w' 66 v' (R.src n).ss.length (Zb (R.src n).ss))∧Below w w w':=by
 have CN:=Zh (fun w=>MU n 9 w)
 have hb:=hR.lt
 have hi:WB n 9=true:=(XO _ _).2 Zo
 obtain ⟨s0,s1,s2,s3,s4⟩:=hR.Nw hn.2
 rw [h] at s0
 rw [hi] at CN
 have WS:=Zh (hR.rows n hn.2)
 obtain ⟨sa,dR,Kg,Tm⟩:=hR.rows n hn.2
 have CC:=Zh (fun w1 (hw:Below w w w1)=>EO (R.src n).sv (R.src n).ss w1 ((hR.rows n hn.2).below hw).r hl)
 rw [Kg] at s3 CC
 clear hi h hR Tm Kg
 generalize (R.src n).ss=ss at *
 generalize (R.src n).num=nm at *
 generalize (R.src n).own=ow at *
 generalize (R.src n).ZE=mt at *
 go_enter Tryz.func81,Tryz.ntmps81
 go_wp2_with fail
 refine (CN.o _).mono ?_
 rintro e w1 ⟨rfl,rfl⟩
 go_wp2_with fail
 refine (CC.o _ (by repeat (first|exact YG _ _|refine Below.alloc ?_ Zi _))).mono ?_
 rintro e w1 ⟨⟨v',rfl,Z7⟩,Zj⟩
 have Rp:=Zh Z7
 obtain ⟨a',cap',rfl,Tm⟩:=Z7
 obtain ⟨MQ,KP⟩:=TD Zj
 have hz:w.heap.size+1<w1.heap.size:=by have:=Zj.size;simp at this;omega
 have HB:=Zh Zj
 have r0:=MQ w.heap.size 0 VB
 have r1:=MQ w.heap.size 1 VB
 have r2:=MQ w.heap.size 2 VB
 have r3:=MQ w.heap.size 3 VB
 simp at r0 r1 r2 r3
 clear Tm Zj
 go_wp2_with fail
 refine VR (v:= .tuple (Qx (Qj nm ow a' ss.length cap' mt) true)) (by simp [results,Tryz.results81,go_sem,r0,r1,r2,r3]) rfl ⟨⟨_,rfl,?_⟩,?_⟩
 ·refine Rp.o.fr (B:=w1.heap.size) (S:=fun k=>w.heap.size≤k∧k<w.heap.size+2) ?_ (ZB _) ?_
  ·repeat (refine Fr.setCell ?_ (Wj Zi) _)
   exact Fr.refl _ _ _
  ·intro k c fr hk
   rw [HB.o.block k VB]
   obtain ⟨n1,n2⟩:=Wm w (.cells (Qj 0 0 none 0 0 false) 108) (.cells (Qj nm ow sa ss.length dR mt) 108)
   have:k=w.heap.size∨k=w.heap.size+1:=by omega
   rcases this with rfl|rfl
   ·rw [n1];exact VX Zd
   ·rw [n2];exact VX Zd
 ·repeat (refine Below.setCell ?_ Zi _)
  exact ((Z' _ _).trans ((Z' _ _).mono Zi)).trans (HB.o.mono VB)
end Go.Proofs.Rm
namespace Go.Proofs.Rm
open Go.RowKit Go.Proofs.Heap Go.Proofs.Mem
theorem ZF {base:Nat} {e:TypeId} {size:Nat} {v:Value} {n:Nat} {xs:List Value} {w w':World} (h:w.ownsRow base e size v n xs) (hb:Below w w w'):w'.ownsRow base e size v n xs:=by
 obtain ⟨h1,h2⟩:=h
 refine ⟨h1,?_⟩
 rcases h2 with h2|⟨g,cap,cur,hv,hg,hh,r⟩
 ·exact Wc h2
 ·have Rj:g<w.heap.size:=by
   exact nu
  exact Wj ⟨g,cap,cur,hv,hg,by rw [hb.block g Rj];exact hh,r⟩
def Tv (R:Room) (n:Int) (k:Nat):List Nat:=(List.range k).filter fun p=>ZH R p n
theorem Ct (R:Room) (n:Int) (k:Nat):Tv R n (k+1)=Tv R n k++if ZH R k n then [k] else []:=by
 unfold Tv
 rw [Aq,List.filter_append]
 congr 1
 cases h:ZH R k n <;> simp [h]
theorem IQ (R:Room) (n:Int) (k:Nat):(Tv R n k).length≤k:=by
 have:=List.length_filter_le (fun p:Nat=>ZH R p n) (List.range k)
 rw [List.length_range] at this
 exact this
theorem Kj (a b:List Nat):ints (a++b)=ints a++ints b:=ND
theorem Yw {base:Nat} {e:TypeId} {size:Nat} {v:Value} {n:Nat} {xs:List Value} {w:World} (h:w.ownsRow base e size v n xs):∀ k,v.ownBlock=some k→base≤k:=by
 intro k hk
 obtain ⟨_,h⟩:=h
 rcases h with ⟨rfl,_⟩|⟨g,cap,cur,rfl,hg,_⟩
 ·cases hk
 ·have hk:some g=some k:=hk
  cases hk;exact hg
theorem Lq (b:Nat) (R:Room) (n:Int) (w:World) (hR:Z4 w b R) :
  Calls Tryz.prog 82 (Ql (some ⟨b,0,none⟩) n) w fun e w'=>(∃ v,e = .returned v∧Row w' 3 v (Z8 R n).length (ints (Z8 R n)))∧Below w w w':=by
 have HR:=Zh hR
 have hb:=hR.lt
 have HS:Hid (Z8 R n=Tv R n 9):=rfl
 clear hR
 go_enter Tryz.func82,Tryz.ntmps82
 go_wp2
 go_loopw [5,9] (fun v i w'=>∃ k:Nat,k≤9∧i = .int .i64 k∧Below w w w'∧w'.ownsRow w 3 1 v (Tv R n k).length (ints (Tv R n k))) (fun _ i _=>9-(intOf i).toNat)
 case atStart=>exact ⟨0,Zo,rfl,YG _ _,Us _ _ _ _⟩
 case round=>
  obtain ⟨k,hk,rfl,XS,YO⟩:=hrel
  have Yu:=Zh YO
  clear YO
  by_cases VD:k<9
  ·have cs:=I7 b R k n wr (HR.o.below XS)
   have JY:=Zh (Ct R n k)
   have ME:=IQ R n k
   cases hh:ZH R k n
   ·rw [hh,Z6 Zd] at cs
    have CS:=Zh cs
    clear cs
    have HF:Hid (Tv R n (k+1)=Tv R n k):=by show _=_;rw [JY.o,hh];simp
    clear hh
    go_wp2_with (go_at_call 83;refine CS.o.mono ?_;rintro e w1 ⟨rfl,Zj⟩)
    go_roundw
    case rel=>
     refine ⟨k+1,Zo,Zn,(XS.trans (Zj.mono XS.size)).alloc (Rh XS.size Zj.size) _,?_⟩
     rw [HF.o]
     exact (ZF Yu.o Zj).alloc _
    case measure=>simp [intOf];omega
   ·rw [hh,ZX rfl,Xf] at cs
    generalize (R.sub n.toNat k).want=wa at cs
    generalize (R.sub n.toNat k).ZR=pa at cs
    have CS:=Zh cs
    clear cs
    have HF:Hid (Tv R n (k+1)=Tv R n k++[k]):=by show _=_;rw [JY.o,hh];simp
    clear hh
    go_wp2_with (first|(go_at_call 83;refine CS.o.mono ?_;rintro e w1 ⟨rfl,Zj⟩)|(at_builtin;refine Za rfl (.tmp 20) (.tmp 22) 72 rfl w.heap.size xy _ (Tv R n k).length (ints (Tv R n k)) rfl ?a1 _ 1 [.int .i64 k] rfl ?a2 rfl ?a4 ?a5 ?a6 ?a7 (fun v' w2 Mv HG=>?_)))
    case a1=>exact ((ZF Yu.o Zj).alloc _).alloc _
    case a2=>exact YL _ _ 1 _ [.int .i64 k] Zd Zi
    case a4=>intro u hu;simp at hu;subst hu;rfl
    case a5=>omega
    case a6=>omega
    case a7=>have h1:=XS.size;have h2:=Zj.size;simp;omega
    go_roundw
    case rel=>
     refine ⟨k+1,Zo,Zn,?_,?_⟩
     ·have h1:=XS.trans (Zj.mono XS.size)
      have h2:=h1.alloc h1.size (.cells (Qg k n wa pa) 105)
      have h3:=h2.alloc h2.size (.cells #[.int .i64 k] 3)
      exact h3.grown HG.o h3.size (Yw Yu.o)
     ·rw [HF.o,SP,Kj]
      exact Mv.o
    case measure=>simp [intOf];omega
  ·have lV:k=9:=by omega
   subst lV
   go_wp2
   go_ret
   exact ⟨⟨_,rfl,by rw [HS.o];exact Row.ZV Yu.o⟩,XS⟩
theorem Row.grown {w w':World} {e:TypeId} {v:Value} {n:Nat} {xs:List Value} (h:Row w e v n xs) {base:Nat} {e2:TypeId} {size:Nat} {vo:Value} {m:Nat} {ys:List Value} (ho:w.ownsRow base e2 size vo m ys) (hg:w.grownBy w' vo.ownBlock) (Xh:e≠e2):Row w' e v n xs:=by
 refine h.fr (B:=w.heap.size) (S:=fun k=>vo.ownBlock=some k) ⟨hg.os,hg.tape,hg.output,hg.size,fun k hk hs=>hg.block k hk (fun e=>hs e.symm)⟩ (ZB _) ?_
 intro k c fr hk he
 obtain ⟨_,ho⟩:=ho
 rcases ho with ⟨rfl,_⟩|⟨g,cap,cur,rfl,_,hh,_⟩
 ·cases hk
 ·have hk:some g=some k:=hk
  cases hk
  rw [hh] at he
  exact VX (fun h=>Xh h.symm) he
theorem Z4.grown {w w':World} {b:Nat} {R:Room} (h:Z4 w b R) {base:Nat} {e2:TypeId} {size:Nat} {vo:Value} {m:Nat} {ys:List Value} (ho:w.ownsRow base e2 size vo m ys) (hg:w.grownBy w' vo.ownBlock) (hb:b<base) (Xh:66≠e2):Z4 w' b R:=by
 refine ⟨?_,fun n hn=>Row.grown (h.rows n hn) ho hg Xh⟩
 obtain ⟨c,hc,hs,Vc⟩:=h.cells
 refine ⟨c,?_,hs,Vc⟩
 rw [hg.block b h.lt (fun e=>by have:=Yw ho b e.symm;omega)]
 exact hc
theorem Yj {base:Nat} {e:TypeId} {size:Nat} {v:Value} {n:Nat} {xs:List Value} {w w':World} {S:Nat→Prop} (h:w.ownsRow base e size v n xs) (hf:Fr w S w w') (hS:∀ k,S k→k<base):w'.ownsRow base e size v n xs:=by
 obtain ⟨h1,h2⟩:=h
 refine ⟨h1,?_⟩
 rcases h2 with h2|⟨g,cap,cur,hv,hg,hh,r⟩
 ·exact Wc h2
 ·have Rj:g<w.heap.size:=by
   exact nu
  exact Wj ⟨g,cap,cur,hv,hg,by rw [hf.block g Rj (fun hs=>by have:=hS g hs;omega)];exact hh,r⟩
theorem Z4.G' {w:World} {b:Nat} {R:Room} (h:Z4 w b R) {e:TypeId} (he:e≠152):∀ k c fr,k=b→w.heap[k]?≠some (.cells c e fr):=by
 intro k c fr hk
 subst hk
 obtain ⟨c',hc,_,_⟩:=h.cells
 rw [hc]
 exact VX (fun h=>he h.symm)
theorem Tu (R:Room) (n:Nat) (x:Src):(R.Zt n x).src n=x:=by simp [Room.Zt]
theorem Ta (R:Room) (n:Nat) (x y:Src):(R.Zt n x).Zt n y=R.Zt n y:=by
 unfold Room.Zt
 congr 1
 funext m
 dsimp only
 split <;> rfl
theorem Z4.Uo {w:World} {b:Nat} {R:Room} (h:Z4 w b R) {n i:Nat} (hn:n<9) (hi:i<5) {x:Src} {v:Value} (hx:∀ j,j<5→N0 x j=if j=i then v else N0 (R.src n) j)
  (Z7:Row w 66 x.sv x.ss.length (Zb x.ss)):Z4 (w.setCell ⟨b,9+n*5+i,none⟩ v) b (R.Zt n x):=by
 refine h.set Zo (fun j hj=>?_) (fun m hm=>?_)
 ·by_cases h1:j<9∨54≤j
  ·unfold Xn
   rw [Z6 (by omega:¬j=9+n*5+i)]
   by_cases h2:j<9
   ·rw [ZX h2,ZX h2];rfl
   ·rw [Z6 h2,Z6 h2,Z6 Zo,Z6 Zo];rfl
  ·unfold Xn
   rw [Z6 (by omega:¬j<9),ZX (by omega:j<54),Z6 (by omega:¬j<9),ZX (by omega:j<54)]
   by_cases h3:(j-9) / 5=n
   ·have e:(R.Zt n x).src ((j-9) / 5)=x:=by simp [Room.Zt,h3]
    rw [e,h3,hx _ Zo]
    have:((j-9) % 5=i)↔(j=9+n*5+i):=by omega
    by_cases h4:(j-9) % 5=i
    ·rw [ZX h4,ZX (this.1 h4)]
    ·rw [Z6 h4,Z6 (fun e=>h4 (this.2 e))]
   ·have e:(R.Zt n x).src ((j-9) / 5)=R.src ((j-9) / 5):=by simp [Room.Zt,h3]
    rw [e,Z6 Zo]
 ·by_cases hmn:m=n
  ·subst hmn;rw [Tu];exact Z7
  ·have e:(R.Zt n x).src m=R.src m:=by simp [Room.Zt,hmn]
   rw [e];exact h.rows m hm
theorem Z4.Zt {w:World} {b:Nat} {R:Room} (h:Z4 w b R) {n:Nat} (hn:n<9) (x:Src) (Z7:Row w 66 x.sv x.ss.length (Zb x.ss)) :
  Z4 (((((w.setCell ⟨b,9+n*5,none⟩ (.bool x.there)).setCell ⟨b,9+n*5+1,none⟩ (.int .i64 x.num)).setCell ⟨b,9+n*5+2,none⟩ (.int .i64 x.own)).setCell ⟨b,9+n*5+3,none⟩ x.sv).setCell ⟨b,9+n*5+4,none⟩ (.bool x.ZE)) b (R.Zt n x):=by
 have ho:=h.other
 obtain ⟨c,hc,_,_⟩:=h.cells
 have r1:=h.rows n hn
 have c5:∀ j,j<5→(j=0∨j=1∨j=2∨j=3∨j=4):=by intro j hj;omega
 have h1:=h.Uo hn (i:=0) Zo (x:={R.src n with there:=x.there}) (v:= .bool x.there) (by intro j hj;rcases c5 j hj with rfl|rfl|rfl|rfl|rfl <;> rfl) r1
 have h2:=h1.Uo hn (i:=1) Zo (x:={R.src n with there:=x.there,num:=x.num}) (v:= .int .i64 x.num) ng (by have:=h1.rows n hn;rw [Tu] at this;exact this)
 have h3:=h2.Uo hn (i:=2) Zo (x:={R.src n with there:=x.there,num:=x.num,own:=x.own}) (v:= .int .i64 x.own) ng (by have:=h2.rows n hn;rw [Tu] at this;exact this)
 have dx:Row (((w.setCell ⟨b,9+n*5,none⟩ (.bool x.there)).setCell ⟨b,9+n*5+1,none⟩ (.int .i64 x.num)).setCell ⟨b,9+n*5+2,none⟩ (.int .i64 x.own)) 66 x.sv x.ss.length (Zb x.ss):=
  Z7.fr ((((Fr.refl w.heap.size (· = b) w).setAt _ _).setAt _ _).setAt _ _) (ZB _) ho
 have h4:=h3.Uo hn (i:=3) Zo (x:={R.src n with there:=x.there,num:=x.num,own:=x.own,sv:=x.sv,ss:=x.ss}) (v:=x.sv) ng dx
 have h5:=h4.Uo hn (i:=4) Zo (x:=x) (v:= .bool x.ZE) ng (by have:=h4.rows n hn;rw [Tu] at this;exact this)
 rw [Ta,Ta,Ta,Ta] at h5
 exact h5
theorem Ka (n:Nat) (p:Nat):∀ (l:List Nat) (R:Room),XN n (l++[p]) R=((XN n l R).1++[⟨3,p,n,0,0⟩,⟨2,p,n,0,0⟩],(XN n l R).2.ZZ n p VJ)
 | [],R=>rfl
 | q :: l,R=>by
  simp only [List.cons_append,XN]
  rw [Ka n p l]
theorem MJ (n:Nat):∀ (l:List Nat) (R:Room),(XN n l R).1.length=2*l.length
 | [],R=>rfl
 | q :: l,R=>by
  simp only [XN,List.length_cons,MJ n l];omega
theorem G5 (t:YE):(Z_ t).length=5:=rfl
theorem Yk (l:List YE):∀ u∈l.flatMap Z_,u.oneCell'=true:=by
 intro u hu
 obtain ⟨t,_,hu⟩:=List.mem_flatMap.1 hu
 simp only [Z_,KG,List.mem_nil_iff,or_false] at hu
 rcases hu with rfl|rfl|rfl|rfl|rfl <;> rfl
theorem Wf (l:List YE):(l.flatMap Z_).length=l.length*5:=XZ _ 5 G5 l
theorem U9 {w:World} {v:Value} {l:List Nat} (h:Row w 3 v l.length (ints l)) (hl:0<l.length):∃ g off cap,v = .slice (some ⟨g,off,none⟩) l.length cap∧g<w.heap.size∧∀ j,j<l.length→w.cell? ⟨g,off+j,none⟩=some (.int .i64 (l.getD j 0:Nat)):=by
 have cH:(ints l).length=l.length:=UM _
 obtain ⟨g,off,cap,h1,_,_,h4,h5⟩:=h.open (by rw [cH];exact hl)
 refine ⟨g,off,cap,h1,h4,fun j hj=>?_⟩
 rw [h5 j (by rw [cH];exact hj),Sq,VQ hj]
 simp [ints,hj]
theorem Mo {R:Room} {n:Int} {j:Nat} (h:j<(Z8 R n).length):(Z8 R n).getD j 0<9:=by
 rw [Sq,VQ h]
 have:=Pw h
 have:=(lq.1 this).1
 simpa using this
theorem S6 (R:Room) (n:Int):(Z8 R n).length≤9:=IQ R n 9
theorem K8 {l:List Nat} {k:Nat} (h:k<l.length):l.take (k+1)=l.take k++[l.getD k 0]:=by
 rw [List.take_succ_eq_append_getElem h,Sq,VQ h];rfl
theorem H7 (b:Nat) (R:Room) (n:Nat) (w:World) (hR:Z4 w b R) (hn:n<9) :
  Calls Tryz.prog 137 (Ql (some ⟨b,0,none⟩) n) w fun e w'=>(∃ v,e = .returned v∧YM w' v (gone R n).1)∧Z4 w' b (gone R n).2∧Fr w (· = b) w w':=by
 have hb:=hR.lt
 have CS:=Zh (Lq b R n w hR)
 have HG0:Hid (gone R n=((XN n (Z8 R n) R).1,(XN n (Z8 R n) R).2.Zt n UT)):=rfl
 have HM:Hid (∀ j,j<(Z8 R n).length→(Z8 R n).getD j 0<9):=fun j h=>Mo h
 have HL:=S6 R n
 have HR:=Zh hR
 clear hR
 generalize Z8 R n=L at *
 go_enter Tryz.func137,Tryz.ntmps137
 go_wp2_with fail
 refine CS.o.mono ?_
 rintro e w1 ⟨⟨lv,rfl,Z7⟩,Zj⟩
 have WS:=Zh Z7
 have HB:=Zh Zj
 clear Zj
 rcases Nat.eq_zero_or_pos L.length with h0|h0
 ·obtain ⟨la,MZ,rfl,hx⟩:=Z7
  clear hx
  have mO:Hid (L=[]):=DM h0
  have Yg:=Zh (HR.o.below HB.o)
  obtain ⟨s0,s1,s2,s3,s4⟩:=Yg.o.Nw hn
  have f0:=Yg.o.YS (9+n*5)
  have f1:=Yg.o.YS (9+n*5+1)
  have f2:=Yg.o.YS (9+n*5+2)
  have f3:=Yg.o.YS (9+n*5+3)
  have f4:=Yg.o.YS (9+n*5+4)
  go_wp2_with fail
  go_loopw [5,12] (fun v i w'=>v = .slice none 0 0∧i = .int .i64 0∧w'=w1) (fun _ _ _=>0)
  case atStart=>exact ⟨rfl,rfl,rfl⟩
  case round=>
   obtain ⟨rfl,rfl,rfl⟩:=hrel
   go_wp2
   go_ret
   rw [HG0.o,mO.o]
   refine ⟨⟨_,rfl,?_⟩,Yg.o.Zt hn UT (Row.nil _ _),((((((Fr.Z9 _ HB.o).setAt _ _).setAt _ _).setAt _ _).setAt _ _).setAt _ _)⟩
   exact Row.nil _ _
 ·obtain ⟨g,off,cap,rfl,hg,YX⟩:=U9 Z7 h0
  have HC:=Zh YX
  clear Z7 YX
  go_wp2_with fail
  go_loopw [5,12] (fun v i w'=>∃ k:Nat,k≤L.length∧i = .int .i64 k∧Fr w (· = b) w w'∧Row w' 3 (.slice (some ⟨g,off,none⟩) L.length cap) L.length (ints L)∧Z4 w' b (XN n (L.take k) R).2∧w'.ownsRow w 158 5 v (XN n (L.take k) R).1.length ((XN n (L.take k) R).1.flatMap Z_)) (fun _ i _=>L.length-(intOf i).toNat)
  case atStart=>exact ⟨0,Zo,rfl,Fr.Z9 _ HB.o,WS.o,HR.o.below HB.o,Us _ _ _ _⟩
  case round=>
   obtain ⟨k,hk,rfl,Xm,Z7,XE,YO⟩:=hrel
   have U5:=Zh Xm
   have Rp:=Zh Z7
   have Yg:=Zh XE
   have Yu:=Zh YO
   clear Xm YO XE
   by_cases W_:k<L.length
   ·obtain ⟨g',off',cap',e1,cD,YX⟩:=U9 Z7 h0
    cases e1
    have hc:=YX k W_
    have hp:=HM.o k W_
    have HT:=Zh (K8 W_)
    have EW:=MJ n (L.take k) R
    rw [TU] at EW
    clear YX Z7
    generalize L.getD k 0=p at *
    have HS:=Zh (Ka n p (L.take k) R)
    have CE:=Zh (D5 b (XN n (L.take k) R).2 p n wr Yg.o hn hp)
    generalize XN n (L.take k) R=G at *
    go_wp2_with (first|(go_at_call 139;refine CE.o.mono ?_;rintro e w2 ⟨rfl,Rw,SX⟩;have MD:=Zh Rw;have UE:=Zh SX;clear Rw SX)|(at_builtin;refine Za rfl (.tmp 16) (.tmp 24) 98 rfl w.heap.size XU _ G.1.length (G.1.flatMap Z_) rfl ?a1 _ 2 ([⟨3,p,n,0,0⟩,⟨2,p,n,0,0⟩].flatMap Z_) rfl ?a2 rfl ?a4 ?a5 ?a6 ?a7 (fun v' w3 HO HG=>?_)))
    case a1=>exact (Yj Yu.o UE.o (fun k hk=>by omega)).alloc _
    case a2=>exact YL _ _ 2 _ ([⟨3,p,n,0,0⟩,⟨2,p,n,0,0⟩].flatMap Z_) Zd rfl
    case a4=>exact Yk _
    case a5=>omega
    case a6=>omega
    case a7=>have h1:=U5.o.size;have h2:=UE.o.size;simp;omega
    go_roundw
    case rel=>
     have h1:=U5.o.size
     have h2:=UE.o.size
     have SZ:=(Yj Yu.o UE.o (fun k hk=>by omega)).alloc (.cells ([⟨3,p,n,0,0⟩,⟨2,p,n,0,0⟩].flatMap Z_).toArray 158)
     have XS:=Z' w2 (.cells ([⟨3,p,n,0,0⟩,⟨2,p,n,0,0⟩].flatMap Z_).toArray 158)
     refine ⟨k+1,Zo,Zn,?_,?_,?_,?_⟩
     ·exact qO
     ·exact Row.grown ((Rp.o.fr UE.o (ZB _) (Yg.o.G' Zd)).below XS) SZ HG.o Zd
     ·rw [HT.o,HS.o]
      exact Z4.grown (MD.o.below XS) SZ HG.o hb Zd
     ·rw [HT.o,HS.o]
      dsimp only
      rw [SP,QL]
      exact HO.o
    case measure=>simp [intOf];omega
   ·have ux:k=L.length:=by omega
    have hT:L.take k=L:=by rw [ux,qX]
    rw [hT] at Yg Yu
    obtain ⟨s0,s1,s2,s3,s4⟩:=Yg.o.Nw hn
    have f0:=Yg.o.YS (9+n*5)
    have f1:=Yg.o.YS (9+n*5+1)
    have f2:=Yg.o.YS (9+n*5+2)
    have f3:=Yg.o.YS (9+n*5+3)
    have f4:=Yg.o.YS (9+n*5+4)
    clear hT Z7
    generalize XN n L R=G at *
    go_wp2
    go_ret
    rw [HG0.o]
    exact ⟨⟨_,rfl,(Row.ZV Yu.o).fr (((((((Fr.refl wr.heap.size (· = b) wr).setAt _ _).setAt _ _).setAt _ _).setAt _ _).setAt _ _)) (ZB _) (Yg.o.G' Zd)⟩,Yg.o.Zt hn UT (Row.nil _ _),(((((U5.o.setAt _ _).setAt _ _).setAt _ _).setAt _ _).setAt _ _)⟩
end Go.Proofs.Rm
namespace Go.Proofs.Rm
open Go.RowKit Go.Proofs.Heap Go.Proofs.Mem
theorem below_drewN {B:Nat} {a w:World} (h:Below B a w):∀ q,Below B a (w.drewN q)
 | 0=>h
 | q+1=>(below_drewN h q).drew
theorem FI (b:Nat) (R:Room) (o:Op) (sa ba:Option Addr) (sl sc bl bc:Nat) (w:World) (hR:Z4 w b R) (hs:1≤o.source∧o.source<9) :
  Calls Tryz.prog 164 (Qf (some ⟨b,0,none⟩) (Ji o sa sl sc ba bl bc)) w fun e w'=>e = .returned (.int .i64 (Zu R o))∧Below w w w':=by
 obtain ⟨k,p,n,q,nm,ss⟩:=o
 obtain ⟨n,rfl⟩:=Rn (show 0≤n by have:=hs.1;dsimp only at this;omega)
 have hn:n<9:=by have:=hs.2;dsimp only at this;omega
 obtain ⟨s0,s1,s2,s3,s4⟩:=hR.Nw hn
 have hb:=hR.lt
 have HL:Hid (Zu R ⟨k,p,n,q,nm,ss⟩=if q<0∨((R.src n).ss.length:Int)≤q then 5 else 0):=rfl
 have hlen:=(hR.rows n hn).len
 obtain ⟨va,vc,Kg,hx⟩:=hR.rows n hn
 rw [Kg] at s3
 clear hR hs hx Kg
 generalize (R.src n).ss.length=L at *
 dsimp only
 by_cases h1:q<0
 ·have HF:Hid (Zu R ⟨k,p,n,q,nm,ss⟩=5):=by show _=_;rw [HL.o,ZX (Wc h1)]
  exact hJ
 ·by_cases h2:(L:Int)≤q
  ·have HF:Hid (Zu R ⟨k,p,n,q,nm,ss⟩=5):=by show _=_;rw [HL.o,ZX (Wj h2)]
   have fg:decide (q<0)=false:=WN h1
   have GD:decide ((L:Int)≤q)=true:=Ws h2
   exact hJ
  ·have HF:Hid (Zu R ⟨k,p,n,q,nm,ss⟩=0):=by show _=_;rw [HL.o,Z6 Zo]
   have fg:decide (q<0)=false:=WN h1
   have GD:decide ((L:Int)≤q)=false:=WN h2
   exact hJ
theorem vw (b:Nat) (R:Room) (o:Op) (sa ba:Option Addr) (sl sc bl bc:Nat) (w:World) (hR:Z4 w b R) (hs:1≤o.source∧o.source<9) (hp:1≤o.peer∧o.peer<9) :
  Calls Tryz.prog 165 (Qf (some ⟨b,0,none⟩) (Ji o sa sl sc ba bl bc)) w fun e w'=>e = .returned (.int .i64 (heard R o))∧Below w w w':=by
 have CL:=Zh (fun (w1:World) (h:Below w w w1)=>FI b R o sa ba sl sc bl bc w1 (hR.below h) hs)
 obtain ⟨k,p,n,q,nm,ss⟩:=o
 obtain ⟨n,rfl⟩:=Rn (show 0≤n by have:=hs.1;dsimp only at this;omega)
 obtain ⟨p,rfl⟩:=Rn (show 0≤p by have:=hp.1;dsimp only at this;omega)
 have hn:n<9:=by have:=hs.2;dsimp only at this;omega
 have Mz:p<9:=by have:=hp.2;dsimp only at this;omega
 obtain ⟨c0,c1,c2⟩:=hR.IP hn Mz
 have hb:=hR.lt
 have HL:Hid (heard R ⟨k,p,n,q,nm,ss⟩=(let x:=R.sub n p
   if !x.there then 8 else if k=10∧x.ZR=true then 9 else if k=11∧x.ZR=false then 11 else if k≠12 then 0
   else if Zu R ⟨k,p,n,q,nm,ss⟩≠0 then Zu R ⟨k,p,n,q,nm,ss⟩ else if x.want=q then 9 else 0)):=rfl
 clear hR hs hp
 dsimp only at CL HL ⊢
 generalize Zu R ⟨k,p,n,q,nm,ss⟩=ly at *
 generalize heard R ⟨k,p,n,q,nm,ss⟩=hd at *
 generalize (R.sub n p).there=t0 at *
 generalize (R.sub n p).ZR=t1 at *
 generalize (R.sub n p).want=t2 at *
 go_enter Tryz.func165,Tryz.ntmps165
 go_wp2
 go_region
 go_wp2_with (go_at_call 164;refine (CL.o _ yE).mono ?_;rintro e w1 ⟨rfl,Zj⟩;obtain ⟨MQ,KP⟩:=TD Zj)
 all_goals (go_ret;refine ⟨Y5 ?_,?_⟩)
 all_goals try (refine Below.trans ?_ (Zj.mono VB))
 all_goals try (refine Below.drew ?_)
 all_goals try (refine Below.alloc (Below.alloc (YG _ _) (ZB _) _) Zi _)
 all_goals (rw [HL.o];first|(simp [*];done)|(simp_all;done)|skip)
end Go.Proofs.Rm
namespace Go.Proofs.Rm
open Go.RowKit Go.Proofs.Heap Go.Proofs.Mem
theorem uV (b:Nat) (R:Room) (o:Op) (sa ba:Option Addr) (sl sc bl bc:Nat) (w:World) (hR:Z4 w b R) (hs:1≤o.source∧o.source<9) (hp:1≤o.peer∧o.peer<9) :
  Calls Tryz.prog 135 (Qf (some ⟨b,0,none⟩) (Ji o sa sl sc ba bl bc)) w fun e w'=>e = .returned (.int .i64 (about R o))∧Below w w w':=by
 have CL:=Zh (fun (w1:World) (h:Below w w w1)=>FI b R o sa ba sl sc bl bc w1 (hR.below h) hs)
 have CH:=Zh (fun (w1:World) (h:Below w w w1)=>vw b R o sa ba sl sc bl bc w1 (hR.below h) hs hp)
 obtain ⟨k,p,n,q,nm,ss⟩:=o
 obtain ⟨n,rfl⟩:=Rn (show 0≤n by have:=hs.1;dsimp only at this;omega)
 obtain ⟨p,rfl⟩:=Rn (show 0≤p by have:=hp.1;dsimp only at this;omega)
 have hn:n<9:=by have:=hs.2;dsimp only at this;omega
 have Mz:p<9:=by have:=hp.2;dsimp only at this;omega
 obtain ⟨c0,c1,c2⟩:=hR.IP hn Mz
 obtain ⟨s0,s1,s2,s3,s4⟩:=hR.Nw hn
 have hb:=hR.lt
 have HL:Hid (about R ⟨k,p,n,q,nm,ss⟩=(if k=5∨k=8∨k=9 then
   (if (R.src n).own≠p then 10 else if k=8∧(R.src n).ZE=true then 9 else if k=9∧(R.src n).ZE=false then 11 else 0)
  else if k=6 then (if (R.src n).own=p then 10 else if (R.sub n p).there then 9 else Zu R ⟨k,p,n,q,nm,ss⟩)
  else heard R ⟨k,p,n,q,nm,ss⟩)):=rfl
 obtain ⟨va,vc,Kg,hx⟩:=hR.rows n hn
 rw [Kg] at s3
 clear hR hs hp Kg hx
 dsimp only at CL CH HL ⊢
 generalize Zu R ⟨k,p,n,q,nm,ss⟩=ly at *
 generalize heard R ⟨k,p,n,q,nm,ss⟩=hd at *
 generalize about R ⟨k,p,n,q,nm,ss⟩=ab at *
 generalize (R.sub n p).there=t0 at *
 generalize (R.src n).there=u0 at *
 generalize (R.src n).num=u1 at *
 generalize (R.src n).own=u2 at *
 generalize (R.src n).ZE=u4 at *
 generalize (R.src n).ss.length=vl at *
 go_enter Tryz.func135,Tryz.ntmps135
 go_wp2
 go_region
 go_wp2_with (first|(go_at_call 164;refine (CL.o _ yE).mono ?_;rintro e w1 ⟨rfl,Zj⟩)|(go_at_call 165;refine (CH.o _ yE).mono ?_;rintro e w1 ⟨rfl,Zj⟩))
 all_goals try (go_region;go_wp2_with (first|(go_at_call 164;refine (CL.o _ yE).mono ?_;rintro e w1 ⟨rfl,Zj⟩)|(go_at_call 165;refine (CH.o _ yE).mono ?_;rintro e w1 ⟨rfl,Zj⟩)))
 all_goals (go_ret;refine ⟨Y5 ?_,?_⟩)
 all_goals try (refine Below.trans ?_ (Zj.mono VB))
 all_goals try (refine Below.drew ?_)
 all_goals try (refine Below.drew ?_)
 all_goals try (refine Below.alloc (Below.alloc (YG _ _) (ZB _) _) Zi _)
 all_goals try (rw [HL.o];first|(simp [*];done)|(simp_all;done)|skip)
 go_goals
theorem vM {l:List Int} {x:Int}:decide (0≤index l x)=l.contains x:=by
 unfold index
 cases h:l.findIdx? (fun y=>y == x) with
 | none=>
  have:=List.findIdx?_eq_none_iff.1 h
  have hx:l.contains x=false:=by
   rw [Ls];intro hc
   have:=this x (by simpa using hc)
   simp at this
  rw [hx];rfl
 | some i=>
  have hx:l.contains x=true:=by
   obtain ⟨hi,h1,_⟩:=List.findIdx?_eq_some_iff_getElem.1 h
   have:l[i]=x:=by simpa using h1
   rw [List.contains_iff_mem,←this];exact Pw hi
  rw [hx];simp
theorem Dp (v:Value) (l:List Int) (x:Int) (w:World) (hv:Yf w v l.length (Zb l)) :
  Calls Tryz.prog 163 #[v,.int .u32 x] w fun e w'=>e = .returned (.bool (l.contains x))∧w=w':=by
 have CI:=Zh (E1 v l x w hv)
 have HN:Hid (decide (0≤index l x)=l.contains x):=vM
 clear hv
 generalize index l x=q at *
 go_enter Tryz.func163,Tryz.ntmps163
 go_wp2_with (go_at_call 156;refine CI.o.mono ?_;rintro e w1 ⟨rfl,rfl⟩)
 all_goals go_ret
 all_goals exact ⟨YB (by rw [←HN.o]),rfl⟩
theorem tW {w:World} {g off n cap:Nat} {l:List Int} (h:Yf w (.slice (some ⟨g,off,none⟩) n cap) l.length (Zb l)) (k:Nat) (hk:k≤l.length):Yf w (.slice (some ⟨g,off,none⟩) k cap) (l.take k).length (Zb (l.take k)):=by
 obtain ⟨a,cap',hv,h1,h2,h3,h4⟩:=h
 injection hv with ha hn hc
 subst hc
 have hl:(l.take k).length=k:=by rw [TU];omega
 refine ⟨some ⟨g,off,none⟩,cap,by rw [hl],by rw [hl];omega,h2,(fun h=>by cases h),?_⟩
 by_cases hz:k=0
 ·subst hz;exact Wc rfl
 ·rcases h4 with h4|⟨b,o,Od,Rj,TH⟩
  ·have:(Zb l).length=0:=by rw [h4];rfl
   rw [Wx] at this;omega
  ·refine Wj ⟨b,o,by rw [ha,Od],Rj,fun j hj=>?_⟩
   rw [Wx,hl] at hj
   rw [TH j (by rw [Wx];omega)]
   simp [Zb,List.getElem?_take_of_lt hj]
theorem CQ (R:Room) (l:List Int) (k:Nat):Wb R l k=((of R (l.getD k 0)).2.2 || (l.take k).contains (l.getD k 0)):=rfl
theorem GU (b:Nat) (R:Room) (o:Op) (sa ba:Option Addr) (sc bl bc:Nat) (w:World) (hR:Z4 w b R) (hs:1≤o.source∧o.source<9)
  (Z7:Yf w (.slice sa o.ZO.length sc) o.ZO.length (Zb o.ZO)) :
  Calls Tryz.prog 134 (Qf (some ⟨b,0,none⟩) (Ji o sa o.ZO.length sc ba bl bc)) w fun e w'=>e = .returned (.int .i64 (Wv R o))∧Below w w w':=by
 have CO:=Zh (fun (w1:World) (x:Int) (h:Below w w w1)=>KE b R x w1 (hR.below h))
 obtain ⟨kd,p,n,q,nm,ss⟩:=o
 obtain ⟨n,rfl⟩:=Rn (show 0≤n by have:=hs.1;dsimp only at this;omega)
 have hn:n<9:=by have:=hs.2;dsimp only at this;omega
 obtain ⟨s0,s1,s2,s3,s4⟩:=hR.Nw hn
 have hb:=hR.lt
 have HP:Hid (Wv R ⟨kd,p,n,q,nm,ss⟩=(if ss.length<1∨3<ss.length then 5 else if ss.any (fun s=>decide (s<2) || decide (3221225472≤s)) then 5 else if (R.src n).there then 9 else if (List.range ss.length).any (Wb R ss) then 9 else 0)):=rfl
 dsimp only at *
 have hlen:=Z7.len
 clear hR hs s1 s2 s3 s4
 generalize Wv R ⟨kd,p,n,q,nm,ss⟩=Ep at *
 generalize (R.src n).there=u0 at *
 by_cases h1:ss.length<1
 ·have HF:Hid (Ep=5):=by show _=_;rw [HP.o,ZX (Wc h1)]
  exact ln
 by_cases h2:3<ss.length
 ·have HF:Hid (Ep=5):=by show _=_;rw [HP.o,ZX (Wj h2)]
  exact ln
 have qu:Hid (Ep=(if ss.any (fun s=>decide (s<2) || decide (3221225472≤s)) then 5 else if u0 then 9 else if (List.range ss.length).any (Wb R ss) then 9 else 0)):=by
  show _=_;rw [HP.o,Z6 Zo]
 obtain ⟨g,off,cap,e1,_,_,hg,YX⟩:=QF Z7 Zo
 cases e1
 have HC:=Zh YX
 have WS:=Zh Z7
 clear YX Z7 HP
 go_enter Tryz.func134,Tryz.ntmps134
 go_wp2
 go_loop [25] (fun i=>∃ k:Nat,k≤ss.length∧i = .int .i64 k∧Hid (∀ j,j<k→2≤ss.getD j 0∧ss.getD j 0<3221225472)) (fun i=>ss.length-(intOf i).toNat)
 case atStart=>exact ⟨0,TS _,rfl,fun j hj=>by omega⟩
 case round=>
  obtain ⟨k,hk,rfl,Le⟩:=hrel
  by_cases W_:k<ss.length
  ·exact aW
  ·have gm:Hid (Ep=if u0 then 9 else if (List.range ss.length).any (Wb R ss) then 9 else 0):=by
    exact kM
   clear Le qu
   cases u0
   ·have eD:Hid (Ep=if (List.range ss.length).any (Wb R ss) then 9 else 0):=by show _=_;rw [gm.o];rfl
    clear gm
    go_wp2
    go_quiet (fail)
    go_wp2
    go_loopw [47] (fun i w'=>∃ k:Nat,k≤ss.length∧i = .int .i64 k∧Below w w w'∧w.heap.size<w'.heap.size∧w'.cell? ⟨w,5,none⟩=some (.slice (some ⟨g,off,none⟩) ss.length sc)∧Hid (∀ j,j<k→Wb R ss j=false)) (fun i _=>ss.length-(intOf i).toNat)
    case atStart=>exact ⟨0,TS _,rfl,below_drewN (Z' _ _) _,by simp,by simp,fun j hj=>by omega⟩
    case round=>
     obtain ⟨k,hk,rfl,XS,Vr,Eb,Le⟩:=hrel
     by_cases W_:k<ss.length
     ·have Fy:=WS.o.below XS
      obtain ⟨g',off',cap',e1,_,_,cD,YX⟩:=QF Fy Zo
      cases e1
      have hc:=YX k W_
      have km:=Zh (CO.o wr (ss.getD k 0) XS)
      have CC:Hid (∀ w1,Below wr wr w1→Calls Tryz.prog 163 #[.slice (some ⟨g,off,none⟩) k sc,.int .u32 (ss.getD k 0)] w1 fun e w'=>e = .returned (.bool ((ss.take k).contains (ss.getD k 0)))∧w1=w'):=
       fun w1 h=>Dp _ (ss.take k) _ w1 (tW (Fy.below h) k hk)
      have mY:=Zh (CQ R ss k)
      have ql:Hid (Wb R ss k=true→Ep=9):=by
       intro h
       rw [eD.o,ZX]
       rw [List.any_eq_true]
       exact ⟨k,by simpa using W_,h⟩
      clear YX Fy
      generalize of R (ss.getD k 0)=O at *
      obtain ⟨o1,o2,o3⟩:=O
      dsimp only at km mY
      generalize oD:(ss.take k).contains (ss.getD k 0)=cn at *
      clear oD
      generalize ss.getD k 0=x at *
      cases o3
      ·cases cn
       ·have HF:Hid (Wb R ss k=false):=by show _=_;rw [mY.o];rfl
        go_wp2_with (first|(go_at_call 127;refine km.o.mono ?_;rintro e w2 ⟨rfl,Y0⟩;have PT:=(Y0.cell (p:=⟨w,5,none⟩) Vr).trans Eb)|(go_at_call 163;refine (CC.o _ Y0).mono ?_;rintro e w3 ⟨rfl,rfl⟩))
        exact kK
       ·have HF:=Zh (ql.o (by rw [mY.o];rfl))
        go_wp2_with (first|(go_at_call 127;refine km.o.mono ?_;rintro e w2 ⟨rfl,Y0⟩;have PT:=(Y0.cell (p:=⟨w,5,none⟩) Vr).trans Eb)|(go_at_call 163;refine (CC.o _ Y0).mono ?_;rintro e w3 ⟨rfl,rfl⟩))
        go_ret
        exact ⟨Y5 HF.o.symm,XS.trans (Y0.mono XS.size)⟩
      ·have HF:=Zh (ql.o (by rw [mY.o];rfl))
       go_wp2_with (first|(go_at_call 127;refine km.o.mono ?_;rintro e w2 ⟨rfl,Y0⟩;have PT:=(Y0.cell (p:=⟨w,5,none⟩) Vr).trans Eb))
       go_ret
       exact ⟨Y5 HF.o.symm,XS.trans (Y0.mono XS.size)⟩
     ·exact kO
   ·have HF:Hid (Ep=9):=by show _=_;rw [gm.o];rfl
    go_wp2
    go_quiet (fail)
    go_wp2
    go_ret
    exact ⟨Y5 HF.o.symm,below_drewN (Z' _ _) _⟩
end Go.Proofs.Rm
