/- Part of a proof. -/
import Derived.Test.YtpdjhlcbcomdkaaGreatDoorR21
set_option linter.unusedVariables false
set_option linter.unusedSimpArgs false
set_option maxRecDepth 100000
set_option maxHeartbeats 16000000
open Go Go.Q Go.Qr
namespace Go.Proofs.By
open Go.RowKit Go.Proofs.Heap
theorem Xg {P:Program} {ops:Array Oper} {o:Oper} {a:Act} {w:World} {K:Act→World→Prop} {Q:Exit→Act→World→Prop} {E':Prop} (Mb:o.guard=none) {t e:TypeId} {size bytes:Nat} (E:Elem P t e size bytes) (x:Operand) (ho:o.op = .buildSlice t 1 #[(0,x)])
  (cells:Array Value) (hx:a.eval x = .agg cells) (hs:cells.size=size) (Vl:size≤1000)
  (h:K (a.put o.dst (.slice (some ⟨w,0,none⟩) 1 1)) (w.alloc (.cells cells e))):if Region.wanted o (yielded ops a.tmps)=true then Oper.wp P o a w K Q else E':=by
 have hw:Region.wanted o (yielded ops a.tmps)=true:=by simp [Region.wanted,Mb]
 rw [ZR hw];obtain ⟨z,Uz,lH⟩:=E.info;obtain ⟨i,hi,hz,Sg,oh⟩:=info_parts Uz;have QF:=E.pos;refine Go.wp_buildSlice t e 1 #[(0,x)] ho cells i z E.ht hi hz (by rw [Sg];omega) (by rw [Sg];omega) ?_ h;have hf:=Go.Great.fill_whole (s:=i.size) Zo [.agg cells] ((Array.range (1*i.size)).map (z.cells[· % z.cells.size]!)) (fun v hv=>by rw [J1] at hv;subst hv;show cells.size=_;omega) Zi;have e1:([Value.agg cells].flatMap fun v=>v.cells.toList).toArray=cells:=by simp [Value.cells]
 rw [e1] at hf;simpa [hx] using hf
theorem H7:Elem Tryz.prog 82 173 10 120:=⟨Tryz.underlying82,⟨.agg YZ,by kernel_rfl,rfl⟩,by decide⟩
def comb (L:List Ro) (x:List Ro × Int):List Ro × Int:=if x.2≠0 then ([],x.2) else (L++x.1,0)
theorem zC (L:List Ro) (k:Nat) {r:List UInt8} (h:(Y6 r).2≠0):comb L (YD (k+1) r)=([],(Y6 r).2):=by
 have e:YD (k+1) r=([],(Y6 r).2):=by unfold YD;rw [ZR h]
 rw [e];unfold comb;rw [ZR h]
theorem DX (L:List Ro) (k:Nat) {r:List UInt8} (h:(Y6 r).2=0) (hl:r.length-(Y6 r).1.2=0):comb L (YD (k+1) r)=(L++[(Y6 r).1.1],0):=by
 have e:YD (k+1) r=([(Y6 r).1.1],0):=by unfold YD;rw [Z4 (by simp [h]),ZR hl]
 rw [e];rfl
theorem DY (L:List Ro) (k:Nat) {r:List UInt8} (h:(Y6 r).2=0) (hl:¬r.length-(Y6 r).1.2=0):comb L (YD (k+1) r)=comb (L++[(Y6 r).1.1]) (YD k (r.drop (Y6 r).1.2)):=by
 have e:YD (k+1) r=(if (YD k (r.drop (Y6 r).1.2)).2≠0 then ([],(YD k (r.drop (Y6 r).1.2)).2) else ((Y6 r).1.1 :: (YD k (r.drop (Y6 r).1.2)).1,0)):=by
  conv=>lhs;unfold YD
  rw [Z4 (by simp [h]),Z4 hl]
 rw [e];generalize YD k (r.drop (Y6 r).1.2)=y;by_cases h2:y.2≠0
 ·rw [ZR h2];unfold comb;rw [ZR h2,ZR h2]
 ·rw [Z4 h2];unfold comb;rw [Z4 h2,gb];exact Z4 Zi
theorem JJ {k:Nat} {b:List UInt8} (h:(YD k b).2≠0):YD k b=([],(YD k b).2):=by
 cases k with
 | zero=>rfl
 | succ k=>
  unfold YD at h ⊢;by_cases h1:(Y6 b).2≠0
  ·rw [ZR h1]
  rw [Z4 h1] at h ⊢;by_cases h2:b.length-(Y6 b).1.2=0
  ·rw [ZR h2] at h;exact absurd rfl h
  rw [Z4 h2] at h ⊢;dsimp only at h ⊢;by_cases h3:(YD k (b.drop (Y6 b).1.2)).2≠0
  ·rw [ZR h3]
  ·rw [Z4 h3] at h;exact absurd rfl h
theorem GK {b:List UInt8} (h:(Y6 b).2=0):(Y6 b).1.2≤b.length:=by
 unfold Y6 at h ⊢;by_cases h1:b.length<4
 ·rw [ZR h1] at h;cases h
 rw [Z4 h1] at h ⊢;by_cases h2:at8 b 0 / 32≠4
 ·rw [ZR h2] at h;cases h
 rw [Z4 h2] at h ⊢;by_cases h3:(Xv b).2=false
 ·rw [ZR h3] at h;cases h
 rw [Z4 h3] at h ⊢;by_cases h4:(Xv b).1=200∨(Xv b).1=201
 ·rw [ZR h4] at h ⊢;unfold XZ at h ⊢;by_cases h5:(right b).2≠0
  ·rw [ZR h5] at h;exact absurd h h5
  ·rw [Z4 h5];have:=G' (b:=b) Zo;show (right b).1≤_;rw [this.2.2.2.1];exact this.2.2.2.2
 rw [Z4 h4] at h ⊢;dsimp only at h ⊢;by_cases h5:(XK b (Xv b).1).2=false
 ·rw [ZR h5] at h;cases h
 rw [Z4 h5] at h ⊢;by_cases h6:b.length<(XK b (Xv b).1).1
 ·rw [ZR h6] at h;cases h
 rw [Z4 h6];show (XK b (Xv b).1).1≤_;omega
def pA:Value→Nat
 | .slice _ n _=>n
 | _=>0
theorem XY {w w':World} {row:Option Nat} (hg:w.grownBy w' row):Fr w (fun k=>row=some k) w w':=⟨hg.os,hg.tape,hg.output,hg.size,fun k hk hs=>hg.block k hk (fun e=>hs e.symm)⟩
theorem Za {base:Nat} {e e2:TypeId} {size:Nat} {v:Value} {n:Nat} {xs:List Value} {w:World} (h:w.ownsRow base e size v n xs) (WK:e2≠e):∀ k c fr,v.ownBlock=some k→w.heap[k]?≠some (.cells c e2 fr):=by
 intro k c fr hk hc;obtain ⟨_,h⟩:=h;rcases h with ⟨rfl,_⟩|⟨g,cap,cur,rfl,hg,hh,_⟩
 ·cases hk
 ·have hk:some g=some k:=hk;cases hk;rw [hh] at hc;injection hc with hc
  injection hc with _ hc
  exact WK hc.symm
theorem Uf.yz {w w':World} {x:RN} {S:Nat→Prop} (h:Uf w x) (hf:Fr w S w w') (h1:∀ k c fr,S k→w.heap[k]?≠some (.cells c 228 fr)) (h2:∀ k c fr,S k→w.heap[k]?≠some (.cells c 66 fr)) (h3:∀ k c fr,S k→w.heap[k]?≠some (.cells c 226 fr)):Uf w' x:=
 ⟨Row.fr h.b hf (Zw _) h1,Row.fr h.g hf (Zw _) h2,Row.fr h.p hf (Zw _) h3⟩
theorem AP (v:Value) (b:List UInt8) (w:World) (hv:X6 w v b) :
  Calls Tryz.prog 124 #[v] w fun e w'=>(∃ a,e = .returned (.tuple #[a,.int .i64 (Yj b).2])∧YI w' a (Yj b).1)∧Below w w w':=by
 have HX:Hid (Yj b=if 512<b.length then ([],5) else YD 8 b):=rfl;have HV:Hid (∀ w',Below w w w'→X6 w' v b):=fun w' h=>hv.below h
 have hlen:=hv.len;obtain ⟨va,c,rfl,R4,-⟩:=id hv;clear hv R4;generalize Yj b=X at *
 by_cases h1:512<b.length
 ·rw [ZR h1] at HX;clear HV;go_enter Tryz.func124,Tryz.ntmps124;go_wp2_with fail
  go_ret2
  exact ⟨⟨.slice none 0 0,by rw [HX.o];rfl,by rw [HX.o];exact YI.nil _⟩,YJ _ _⟩
 rw [Z4 h1] at HX
 have aN:Hid (YD 8 b=comb [] (YD (8-0) b)):=by
  show _=_;unfold comb;by_cases h:(YD 8 b).2≠0
  ·rw [ZR h];obtain ⟨y,hy⟩:∃ y,y=YD 8 b:=⟨_,rfl⟩;exact JJ h
  ·rw [Z4 h];have h:(YD 8 b).2=0:=by omega
   show YD 8 b=([]++(YD 8 b).1,0);rw [J2,←h]
 go_enter Tryz.func124,Tryz.ntmps124;go_upto_region 4 with fail
 go_loopw [0,4] (fun s0 s4 w'=>∃ (j:Nat) (r:List UInt8) (ra:Option Addr) (rc:Nat) (L:List RN),j≤8∧L.length=j∧r.length≤512∧s0 = .slice ra r.length rc∧pA s4=j∧Below w w w'∧w'.ownsRow w 173 10 s4 j (L.flatMap YX)∧(∀ x∈L,Uf w' x)∧Hid (∀ w'',Below w w w''→X6 w'' (.slice ra r.length rc) r)∧Hid (YD 8 b=comb (L.map (·.i)) (YD (8-j) r))) (fun _ s4 _=>8-pA s4)
 case atStart=>exact ⟨0,b,va,c,[],Tk _,rfl,Zo,rfl,rfl,YJ _ _,TY _ _ _ _,fun _ h=>by (exact absurd h Zi),HV.o,aN.o⟩
 case round=>
  clear aN HV;obtain ⟨j,r,ra,rc,L,hj,hLj,hr,rfl,-,VX,YH,PF,HR,HG⟩:=hrel;obtain ⟨oa,oc,rfl,-,-⟩:=Row.Z6 YH;have Sy:=Zh VX;have Yh:=Zh YH;have FW:=Zh PF;have TR:=VX.size;have HLJ:=Zh hLj;clear VX YH PF hLj;by_cases h8:j=8
  ·subst h8;go_wp2_with fail
   go_ret2
   exact ⟨⟨.slice none 0 0,by rw [HX.o,HG.o];rfl,by rw [HX.o,HG.o];exact YI.nil _⟩,Sy.o⟩
  have e8:((j:Int) == 8)=false:=by rw [WR];omega
  obtain ⟨q,hq⟩:∃ q,8-j=q+1:=⟨7-j,Zo⟩;rw [hq] at HG;have CI:=Zh (po _ r wr (HR.o _ Sy.o) hr)
  have gZ:r.length≤rc:=by
   have h:=HR.o _ Sy.o;obtain ⟨a1,c1,h1,h2,_⟩:=h;injection h1 with _ _ h1
   omega
  have iF:=Zh (GK (b:=r));have HE:=Zh (zC (L.map (·.i)) q (r:=r));have FX:=Zh (DX (L.map (·.i)) q (r:=r));have HM:=Zh (DY (L.map (·.i)) q (r:=r));generalize Y6 r=Y at *
  obtain ⟨⟨i,n⟩,er⟩:=Y;dsimp only at CI iF HE FX HM;go_upto_region 7 with (go_at_call 151;refine CI.o.mono ?_;rintro e w2 ⟨⟨a,rfl,hit⟩,Y7⟩;obtain ⟨xa,xc,ya,yc,za,zc,ha,Mx⟩:=K_ hit;subst ha;have ym:=Zh Mx;have X8:=Zh Y7;clear hit Mx Y7)
  clear CI;by_cases RU:er=0
  ·subst RU;have hnr:n≤r.length:=iF.o BK;obtain ⟨a2,Uw,-,ZY⟩:=SP (P:=Tryz.prog) VF ra r.length rc n hnr gZ;have U':=Zh ZY;have Ee:=Z8 w2 (.cells (Jq i xa xc ya yc za zc) 173);have H9:=X8.o.size;have Im:Hid (Below w w (w2.alloc (.cells (Jq i xa xc ya yc za zc) 173)).drew):=(ZF (Sy.o.trans (X8.o.mono TR)) (Zw _) _).drew;have FT:Hid (Below w w ((w2.alloc (.cells (Jq i xa xc ya yc za zc) 173)).drew.alloc (.cells (Jq i xa xc ya yc za zc) 173))):=ZF (ZF (Sy.o.trans (X8.o.mono TR)) (Zw _) _).drew (Zw _) _;have Cj:Below w2 w2 ((w2.alloc (.cells (Jq i xa xc ya yc za zc) 173)).drew.alloc (.cells (Jq i xa xc ya yc za zc) 173)):=ZF (Z' w2 _).drew (Zw _) _;have NZ:=Zh (Yw (Yw Yh.o X8.o) Cj)
   have ub:Hid (∀ x∈L++[⟨i,.slice xa i.blocks.length xc,.slice ya i.gone.length yc,.slice za i.XA.length zc⟩],Uf ((w2.alloc (.cells (Jq i xa xc ya yc za zc) 173)).drew.alloc (.cells (Jq i xa xc ya yc za zc) 173)) x):=fun x hx=>by
    rcases DN.1 hx with h|h
    ·exact ((FW.o x h).below X8.o).below Cj
    ·rw [J1] at h;subst h;exact ym.o.below Cj
   clear Cj ZY;go_upto_region 9 with fail
   refine SX ?_;refine wp_region_held_drew (S:=(fun w'=>Below w w w')) ZB ?_ (fun Ye=>?_)
   ·(try dsimp only)
    exact Im.o
   refine YA 0 (h:=YA 4 (h:=YA 5 (h:=YA 6 (h:=?_))));refine R7 1 (h:=fun K hK=>?_);refine Rx Zr 173 (.tmp 5) Zr w2.heap.size Zr 173 (Jq i xa xc ya yc za zc) (0,0) _ Ee Tryz.underlying173 rfl ZB ?_;refine hK.out _ _ ?_ (fun XU=>?_)
   ·(try dsimp only)
    first|exact Rl.o|exact FT.o|exact Im.o
   clear hK K;try simp only [Z_.pt]
   refine R7 2 (h:=fun K hK=>?_);refine Xg Zr H7 (.tmp 24) Zr (Jq i xa xc ya yc za zc) Zr Zr Zd ?_;refine hK.out _ _ ?_ (fun VG=>?_)
   ·(try dsimp only)
    first|exact Rl.o|exact FT.o|exact Im.o
   clear hK K;try simp only [Z_.pt]
   refine R7 3 (h:=fun K hK=>?_);refine Zp Zr (.tmp 23) (.tmp 25) 82 Zr w.heap.size H7 (.slice oa j oc) j (L.flatMap YX) Zr NZ.o (.slice (some ⟨(w2.alloc (.cells (Jq i xa xc ya yc za zc) 173)).drew.heap.size,0,none⟩) 1 1) 1 (Jq i xa xc ya yc za zc) Zr (Vz (w2.alloc (.cells (Jq i xa xc ya yc za zc) 173)).drew 173 1 (Jq i xa xc ya yc za zc) Zd) rfl (by intro u hu;simp only [KN,List.mem_nil_iff,or_false] at hu;rcases hu with rfl|rfl|rfl|rfl|rfl|rfl|rfl|rfl|rfl|rfl <;> rfl) Zo Zo FT.o.size ?_;intro v' w5 HO iD;have HFG:=Zh (XY iD.o);obtain ⟨va',vc',hva',-,-⟩:=Row.Z6 HO.o;subst hva';have Rl:Hid (Below w w w5):=FT.o.trans (Fr.below (HFG.o.mono FT.o.size (fun k hk hs=>absurd (Lh NZ.o k hs) Zo)));refine hK.out _ _ ?_ (fun Nj=>?_)
   ·(try dsimp only)
    first|exact Rl.o|exact FT.o|exact Im.o
   clear hK K;try simp only [Z_.pt]
   refine YA 7 (h:=YA 8 (h:=?_));refine wpAnyH_done ZB ?_ _;refine RA ?_;have eX:Hid (∀ x∈L++[⟨i,.slice xa i.blocks.length xc,.slice ya i.gone.length yc,.slice za i.XA.length zc⟩],Uf w5 x):=fun x hx=>(ub.o x hx).yz HFG.o (Za NZ.o Zd) (Za NZ.o Zd) (Za NZ.o Zd)
   have HFL:Hid ((L++[(⟨i,.slice xa i.blocks.length xc,.slice ya i.gone.length yc,.slice za i.XA.length zc⟩:RN)]).flatMap YX=L.flatMap YX++[.int .i64 i.kind,.int .u32 i.YE,.int .u64 i.Ie,.int .u32 i.time,.int .u32 i.WY,.int .u32 i.octets,.slice xa i.blocks.length xc,.slice ya i.gone.length yc,.int .u32 i.X5,.slice za i.XA.length zc]):=by
    show _=_;rw [OQ];rfl
   clear Ye XU VG Nj ub HFG NZ Im FT Yh FW Ee;by_cases hl:r.length-n=0
   ·rw [hl];go_wp2_with fail
    go_ret2
    refine ⟨⟨.slice va' (j+1) vc',by rw [HX.o,HG.o,FX.o BK hl];rfl,?_⟩,Rl.o⟩;rw [HX.o,HG.o,FX.o BK hl];refine ⟨L++[⟨i,.slice xa i.blocks.length xc,.slice ya i.gone.length yc,.slice za i.XA.length zc⟩],by rw [NR];rfl,?_,eX.o⟩;rw [HFL.o,UE,HLJ.o];exact Row.Z6 HO.o
   ·have bl:(((r.length-n:Nat):Int) == 0)=false:=by rw [WR];omega
    have uG:(r.drop n).length=r.length-n:=Rg;go_wp2_with fail
    go_roundw
    case rel=>
     refine ⟨j+1,r.drop n,a2,rc-n,L++[⟨i,.slice xa i.blocks.length xc,.slice ya i.gone.length yc,.slice za i.XA.length zc⟩],Zo,by rw [UE,HLJ.o];rfl,Zo,by rw [uG],rfl,Rl.o,by rw [HFL.o];exact HO.o,eX.o,?_,?_⟩
     ·intro w'' h;have h5:=U'.o w'' (RD r) (by rw [Xh,Nat.mul_one]) (HR.o w'' h);rw [Nat.mul_one,QN] at h5;show XR _ _ (r.drop n).length _;rw [uG];exact h5
     ·show _=_;rw [HG.o,HM.o BK hl,NR,show 8-(j+1)=q by omega];rfl
    case measure=>show 8-(j+1)<8-j;omega
  ·have bl:(er != 0)=true:=by rw [RQ];exact RU
   have bl2:(er == 0)=false:=by rw [WR];exact RU
   go_wp2_with fail
   go_ret2
   exact ⟨⟨.slice none 0 0,by rw [HX.o,HG.o,HE.o RU];rfl,by rw [HX.o,HG.o,HE.o RU];exact YI.nil _⟩,ZF (Sy.o.trans (X8.o.mono TR)) (Zw _) _⟩
theorem E4 (v:Value) (n:Nat) (xs:List Value) (w:World) (hv:Row w 173 v n xs) (hx:xs.length=n*10) (h1:∀ u∈xs,u.oneCell'=true) (hl:n≤1000000) :
  Calls Tryz.prog 157 #[v] w fun e w'=>(∃ v',e = .returned v'∧w'.ownsRow w 173 10 v' n xs)∧Below w w w':=by
 obtain ⟨a,cap,rfl,SJ,N7,Rh,LK⟩:=id hv;have HV:=Zh hv;have HN:=Zh Rh;have mI:=Zh hx;have ml:=Zh h1;clear hv LK SJ N7 Rh hx h1;cases a with
 | none=>
  obtain ⟨h1,h2⟩:=HN.o rfl;have HL:Hid (xs=[]):=BN (by rw [mI.o,h1]);have he:=fun w=>Lib.run_eql_slice_nil (P:=Tryz.prog) w 82 173 none n cap 0 0 Tryz.underlying82
  have HH1:=Zh h1;clear h1 h2;go_enter Tryz.func157,Tryz.ntmps157;exact jf
 | some a=>
  have he:=fun w=>Lib.run_eql_slice_nil (P:=Tryz.prog) w 82 173 (some a) n cap 0 0 Tryz.underlying82
  clear HN;go_enter Tryz.func157,Tryz.ntmps157;go_wp2_with (at_builtin;refine YV rfl (.tmp 5) (.tmp 6) 82 rfl w.heap.size H7 _ 0 [] rfl (SL w 173 10) _ n xs rfl (HV.o.below (Z' _ _)) mI.o ml.o Zo Zo Zi (fun v' w1 HO HG=>?_))
  go_ret
  have hb:=((Fr.refl w.heap.size PN w).alloc (Zw _) (.cells #[] 173)).grown HG.o Zi (by
   intro k hk;have hk:some w.heap.size=some k:=hk;cases hk
   exact Zw _)
  exact ji
theorem EY (v:Value) (n:Nat) (xs:List Value) (w:World) (hv:Row w 228 v n xs) (hx:xs.length=n*7) (h1:∀ u∈xs,u.oneCell'=true) (hl:n≤1000000) :
  Calls Tryz.prog 158 #[v] w fun e w'=>(∃ v',e = .returned v'∧w'.ownsRow w 228 7 v' n xs)∧Below w w w':=by
 obtain ⟨a,cap,rfl,SJ,N7,Rh,LK⟩:=id hv;have HV:=Zh hv;have HN:=Zh Rh;have mI:=Zh hx;have ml:=Zh h1;clear hv LK SJ N7 Rh hx h1;cases a with
 | none=>
  obtain ⟨h1,h2⟩:=HN.o rfl;have HL:Hid (xs=[]):=BN (by rw [mI.o,h1]);have he:=fun w=>Lib.run_eql_slice_nil (P:=Tryz.prog) w 170 228 none n cap 0 0 Tryz.underlying170
  have HH1:=Zh h1;clear h1 h2;go_enter Tryz.func158,Tryz.ntmps158;exact jf
 | some a=>
  have he:=fun w=>Lib.run_eql_slice_nil (P:=Tryz.prog) w 170 228 (some a) n cap 0 0 Tryz.underlying170
  clear HN;go_enter Tryz.func158,Tryz.ntmps158;go_wp2_with (at_builtin;refine YV rfl (.tmp 5) (.tmp 6) 170 rfl w.heap.size MU _ 0 [] rfl (SL w 228 7) _ n xs rfl (HV.o.below (Z' _ _)) mI.o ml.o Zo Zo Zi (fun v' w1 HO HG=>?_))
  go_ret
  have hb:=((Fr.refl w.heap.size PN w).alloc (Zw _) (.cells #[] 228)).grown HG.o Zi (by
   intro k hk;have hk:some w.heap.size=some k:=hk;cases hk
   exact Zw _)
  exact ji
theorem E6 (v:Value) (n:Nat) (xs:List Value) (w:World) (hv:Row w 66 v n xs) (hx:xs.length=n*1) (h1:∀ u∈xs,u.oneCell'=true) (hl:n≤1000000) :
  Calls Tryz.prog 112 #[v] w fun e w'=>(∃ v',e = .returned v'∧w'.ownsRow w 66 1 v' n xs)∧Below w w w':=by
 obtain ⟨a,cap,rfl,SJ,N7,Rh,LK⟩:=id hv;have HV:=Zh hv;have HN:=Zh Rh;have mI:=Zh hx;have ml:=Zh h1;clear hv LK SJ N7 Rh hx h1;cases a with
 | none=>
  obtain ⟨h1,h2⟩:=HN.o rfl;have HL:Hid (xs=[]):=BN (by rw [mI.o,h1]);have he:=fun w=>Lib.run_eql_slice_nil (P:=Tryz.prog) w 29 66 none n cap 0 0 Tryz.underlying29
  have HH1:=Zh h1;clear h1 h2;go_enter Tryz.func112,Tryz.ntmps112;exact jf
 | some a=>
  have he:=fun w=>Lib.run_eql_slice_nil (P:=Tryz.prog) w 29 66 (some a) n cap 0 0 Tryz.underlying29
  clear HN;go_enter Tryz.func112,Tryz.ntmps112;go_wp2_with (at_builtin;refine YV rfl (.tmp 5) (.tmp 6) 29 rfl w.heap.size Vo _ 0 [] rfl (SL w 66 1) _ n xs rfl (HV.o.below (Z' _ _)) mI.o ml.o Zo Zo Zi (fun v' w1 HO HG=>?_))
  go_ret
  have hb:=((Fr.refl w.heap.size PN w).alloc (Zw _) (.cells #[] 66)).grown HG.o Zi (by
   intro k hk;have hk:some w.heap.size=some k:=hk;cases hk
   exact Zw _)
  exact ji
theorem E5 (v:Value) (n:Nat) (xs:List Value) (w:World) (hv:Row w 226 v n xs) (hx:xs.length=n*2) (h1:∀ u∈xs,u.oneCell'=true) (hl:n≤1000000) :
  Calls Tryz.prog 159 #[v] w fun e w'=>(∃ v',e = .returned v'∧w'.ownsRow w 226 2 v' n xs)∧Below w w w':=by
 obtain ⟨a,cap,rfl,SJ,N7,Rh,LK⟩:=id hv;have HV:=Zh hv;have HN:=Zh Rh;have mI:=Zh hx;have ml:=Zh h1;clear hv LK SJ N7 Rh hx h1;cases a with
 | none=>
  obtain ⟨h1,h2⟩:=HN.o rfl;have HL:Hid (xs=[]):=BN (by rw [mI.o,h1]);have he:=fun w=>Lib.run_eql_slice_nil (P:=Tryz.prog) w 171 226 none n cap 0 0 Tryz.underlying171
  have HH1:=Zh h1;clear h1 h2;go_enter Tryz.func159,Tryz.ntmps159;exact jf
 | some a=>
  have he:=fun w=>Lib.run_eql_slice_nil (P:=Tryz.prog) w 171 226 (some a) n cap 0 0 Tryz.underlying171
  clear HN;go_enter Tryz.func159,Tryz.ntmps159;go_wp2_with (at_builtin;refine YV rfl (.tmp 5) (.tmp 6) 171 rfl w.heap.size KT _ 0 [] rfl (SL w 226 2) _ n xs rfl (HV.o.below (Z' _ _)) mI.o ml.o Zo Zo Zi (fun v' w1 HO HG=>?_))
  go_ret
  have hb:=((Fr.refl w.heap.size PN w).alloc (Zw _) (.cells #[] 226)).grown HG.o Zi (by
   intro k hk;have hk:some w.heap.size=some k:=hk;cases hk
   exact Zw _)
  exact ji
end Go.Proofs.By
namespace Go.Proofs.By
open Go.RowKit Go.Proofs.Heap
theorem Dt (l:List Int):(YO l).length=l.length:=TB _
theorem Kt (l:List Int):∀ u∈YO l,u.oneCell'=true:=by
 intro u hu;obtain ⟨x,_,rfl⟩:=vO.1 hu;rfl
theorem Mk {w:World} {base:Nat} {e:TypeId} {size:Nat} {v:Value} {n:Nat} {xs:List Value} (h:w.ownsRow base e size v n xs) (hn:0<n):∃ g cap cur,v = .slice (some ⟨g,0,none⟩) n cap∧base≤g∧w.heap[g]?=some (.cells cur e):=by
 obtain ⟨_,h⟩:=h;rcases h with ⟨_,h⟩|⟨g,cap,cur,hv,hg,hh,h1,h2,h3,h4⟩
 ·omega
 ·exact ⟨g,cap,cur,hv,hg,hh⟩
theorem Ph {w:World} {base:Nat} {e:TypeId} {size:Nat} {n:Nat} {xs:List Value} {g cap:Nat} (h:w.ownsRow base e size (.slice (some ⟨g,0,none⟩) n cap) n xs) (hn:0<n) (i:Nat) (u:Value):(w.setCell ⟨g,i,none⟩ u).ownsRow base e size (.slice (some ⟨g,0,none⟩) n cap) n (xs.set i u):=by
 exact Yx92
theorem Ai (u:Value):∀ (Q:List RN) (k:Nat) (hk:k<Q.length),(Q.flatMap YX).set (k*10+6) u=(Q.set k {Q[k] with bv:=u}).flatMap YX
 | [],k,hk=>by simp at hk
 | x :: Q,0,_=>by simp [YX]
 | x :: Q,k+1,hk=>by
  have ih:=Ai u Q k (by simpa using hk);rw [List.flatMap_cons,List.set_append_right _ _ (by show 10≤_;omega),List.set_cons_succ,List.flatMap_cons];have:(k+1)*10+6-(YX x).length=k*10+6:=by show _-10=_;omega
  rw [this,ih];rfl
theorem Aj (u:Value):∀ (Q:List RN) (k:Nat) (hk:k<Q.length),(Q.flatMap YX).set (k*10+7) u=(Q.set k {Q[k] with gv:=u}).flatMap YX
 | [],k,hk=>by simp at hk
 | x :: Q,0,_=>by simp [YX]
 | x :: Q,k+1,hk=>by
  have ih:=Aj u Q k (by simpa using hk);rw [List.flatMap_cons,List.set_append_right _ _ (by show 10≤_;omega),List.set_cons_succ,List.flatMap_cons];have:(k+1)*10+7-(YX x).length=k*10+7:=by show _-10=_;omega
  rw [this,ih];rfl
theorem Ak (u:Value):∀ (Q:List RN) (k:Nat) (hk:k<Q.length),(Q.flatMap YX).set (k*10+9) u=(Q.set k {Q[k] with pv:=u}).flatMap YX
 | [],k,hk=>by simp at hk
 | x :: Q,0,_=>by simp [YX]
 | x :: Q,k+1,hk=>by
  have ih:=Ak u Q k (by simpa using hk);rw [List.flatMap_cons,List.set_append_right _ _ (by show 10≤_;omega),List.set_cons_succ,List.flatMap_cons];have:(k+1)*10+9-(YX x).length=k*10+9:=by show _-10=_;omega
  rw [this,ih];rfl
theorem kF (Q:List RN) (k:Nat) (hk:k<Q.length) (b g p:Value):(((Q.flatMap YX).set (k*10+6) b).set (k*10+7) g).set (k*10+9) p=(Q.set k ⟨Q[k].i,b,g,p⟩).flatMap YX:=by
 rw [Ai b Q k hk,Aj g _ k (by rw [List.length_set];exact hk),Ak p _ k (by rw [List.length_set,List.length_set];exact hk)];simp [List.set_set]
theorem wO {w:World} {a:Option Addr} {n c:Nat} {l:List RN} (h:Row w 173 (.slice a n c) n (l.flatMap YX)) (hl:0<l.length):∃ g off,a=some ⟨g,off,none⟩∧∀ (i:Nat) (x:RN),l[i]?=some x→∀ j,j<10→w.cell? ⟨g,off+i*10+j,none⟩=(YX x)[j]?:=by
 have yB:=XG YX 10 (fun _=>rfl) l;obtain ⟨g,off,cap,h1,h2,h3,h4,h5⟩:=Row.open h (by rw [yB];omega);injection h1 with e1 _ _
 refine ⟨g,off,e1,fun i x hx j hj=>?_⟩;have hi:i<l.length:=(List.getElem?_eq_some_iff.1 hx).1;rw [Nat.add_assoc,h5 (i*10+j) (by rw [yB];omega)];exact MV YX 10 (fun _=>rfl) l i j x hx hj
theorem Uf.setAt {w:World} {x:RN} (h:Uf w x) {g:Nat} {c:Array Value} {f:Nat × Nat} (hg:w.heap[g]?=some (.cells c 173 f)) (o:Nat) (u:Value):Uf (w.setCell ⟨g,o,none⟩ u) x:=by
 have hf:Fr w (· = g) w (w.setCell ⟨g,o,none⟩ u):=(Fr.refl _ _ _).setAt _ _
 have WK:∀ e,173≠e→∀ k c fr,k=g→w.heap[k]?≠some (.cells c e fr):=by
  intro e he k c fr hk hc;rw [hk,hg] at hc;injection hc with hc
  injection hc with _ hc
  exact he hc
 exact h.yz hf (WK _ Zd) (WK _ Zd) (WK _ Zd)
theorem pq {x:RN} (h1:∃ a n c,x.bv = .slice a n c) (h2:∃ a n c,x.gv = .slice a n c) (h3:∃ a n c,x.pv = .slice a n c):∀ u∈YX x,u.oneCell'=true:=by
 obtain ⟨i,bv,gv,pv⟩:=x;obtain ⟨_,_,_,h1⟩:=h1;obtain ⟨_,_,_,h2⟩:=h2;obtain ⟨_,_,_,h3⟩:=h3;dsimp only at h1 h2 h3;subst h1;subst h2;subst h3;intro u hu;simp only [YX,KN,List.mem_nil_iff,or_false] at hu;rcases hu with rfl|rfl|rfl|rfl|rfl|rfl|rfl|rfl|rfl|rfl <;> rfl
theorem U4 {α:Type} {f:α→List Value} {l:List α} (h:∀ x∈l,∀ u∈f x,u.oneCell'=true):∀ u∈l.flatMap f,u.oneCell'=true:=by
 intro u hu;obtain ⟨x,hx,hu⟩:=List.mem_flatMap.1 hu;exact h x hx u hu
theorem BS (x:qQ):∀ u∈Xb x,u.oneCell'=true:=by
 intro u hu;simp only [Xb,KN,List.mem_nil_iff,or_false] at hu;rcases hu with rfl|rfl|rfl|rfl|rfl|rfl|rfl <;> rfl
theorem Ay (x:Int × Int):∀ u∈Wj x,u.oneCell'=true:=by
 intro u hu;simp only [Wj,KN,List.mem_nil_iff,or_false] at hu;rcases hu with rfl|rfl <;> rfl
theorem BG (v:Value) (l:List Ro) (w:World) (hv:YI w v l) (Wq:∀ i∈l,S9 i) (hl:l.length≤1000) :
  Calls Tryz.prog 129 #[v] w fun e w'=>(∃ v',e = .returned v'∧YI w' v' l)∧Below w w w':=by
 obtain ⟨L,rfl,ZY,PF⟩:=hv;rw [TB] at hl;have PJ:Hid (∀ Q:List RN,Q.map (·.i)=L.map (·.i)→∀ x∈Q,S9 x.i):=fun Q hQ x hx=>Wq x.i (by rw [←hQ];exact vO.2 ⟨x,hx,rfl⟩)
 have CC:=Zh (E4 v L.length (L.flatMap YX) w ZY (XG YX 10 (fun _=>rfl) L) (U4 fun x hx=>by
  obtain ⟨_,_,h1⟩:=Row.form (PF x hx).b;obtain ⟨_,_,h2⟩:=Row.form (PF x hx).g;obtain ⟨_,_,h3⟩:=Row.form (PF x hx).p
  exact pq ⟨_,_,_,h1⟩ ⟨_,_,_,h2⟩ ⟨_,_,_,h3⟩) Zo)
 have FW:=Zh PF;clear ZY PF Wq;go_enter Tryz.func129,Tryz.ntmps129
 go_upto_block 3 with (go_at_call 157;refine CC.o.mono ?_;rintro e w1 ⟨⟨v1,rfl,ho1⟩,YY⟩;obtain ⟨va,vc,dS,-⟩:=Row.Z6 ho1;subst dS;have Bw:=Zh ho1;have V6:=Zh YY;clear ho1 YY)
 go_loopw [9] (fun s9 w'=>∃ (j:Nat) (Q:List RN),j≤L.length∧s9 = .int .i64 (j:Int)∧Q.map (·.i)=L.map (·.i)∧w'.ownsRow w 173 10 (.slice va L.length vc) L.length (Q.flatMap YX)∧(∀ x∈Q,Uf w' x)∧Below w w w') (fun s9 _=>L.length-(intOf s9).toNat)
 case atStart=>exact ⟨0,L,Zo,rfl,rfl,Bw.o,fun x hx=>(FW.o x hx).below V6.o,V6.o⟩
 case round=>
  obtain ⟨j,Q,hj,rfl,hQ,YH,PF,VX⟩:=hrel;have hQl:Q.length=L.length:=by have h:=congrArg List.length hQ;rwa [TB,TB] at h
  have HQ:=Zh hQ;have Sy:=Zh VX;have Yh:=Zh YH;have FV:=Zh PF;have TR:=VX.size;clear VX PF hQ CC Bw FW V6;by_cases RV:j<L.length
  ·obtain ⟨g,cap,cur,e1,hwg,JB⟩:=Mk YH Zo;cases e1;obtain ⟨g',off',e2,VQ⟩:=wO (Row.Z6 YH) Zo;cases e2;have cZ:j<Q.length:=by omega
   have VQ:=VQ j Q[j] (Vb cZ);have Mx:=FV.o Q[j] (PA cZ);have Wq:=PJ.o Q HQ.o Q[j] (PA cZ);have HQJ:Hid (∀ b g p,(((Q.flatMap YX).set (j*10+6) b).set (j*10+7) g).set (j*10+9) p=(Q.set j ⟨Q[j].i,b,g,p⟩).flatMap YX):=fun b g p=>kF Q j cZ b g p
   have HMAP:Hid (∀ b g p,(Q.set j ⟨Q[j].i,b,g,p⟩).map (·.i)=Q.map (·.i)):=fun b g p=>by
    rw [List.map_set];apply List.ext_getElem
    ·rw [List.length_set]
    ·intro m h1 h2;rw [List.getElem_set];split
     ·rename_i h;subst h;simp
     ·rfl
   clear YH;generalize hxq:Q[j]=x at *
   have HQX:Hid (Q[j]?=some x):=by show _=_;rw [Vb cZ,hxq]
   clear hxq;obtain ⟨i,bv,gv,pv⟩:=x;obtain ⟨ba,bc,n_⟩:=Row.form Mx.b;obtain ⟨ga,gc,wD⟩:=Row.form Mx.g;obtain ⟨pa,pc,Md⟩:=Row.form Mx.p;dsimp only at n_ wD Md Wq HQJ HMAP;subst n_;subst wD;subst Md;have c0:=VQ 0 Zo;have c1:=VQ 1 Zo;have c2:=VQ 2 Zo;have c3:=VQ 3 Zo;have c4:=VQ 4 Zo;have c5:=VQ 5 Zo;have c6:=VQ 6 Zo;have c7:=VQ 7 Zo;have c8:=VQ 8 Zo;have c9:=VQ 9 Zo;simp only [YX,SD,R8,QD,Nat.add_zero] at c0 c1 c2 c3 c4 c5 c6 c7 c8 c9;have zW:(j:Int)<(L.length:Int):=OP.2 RV;have Bh:g<wr.heap.size:=ZW JB;have hz:=Z8 wr (.cells YZ 173);have N7:=setRow_heap _ _ _ (Jq i ba bc ga gc pa pc) _ _ hz;have X8:Hid (Below wr wr ((wr.alloc (.cells YZ 173)).setRow wr.heap.size (Jq i ba bc ga gc pa pc))):=Z3 (Z' wr _) (Zw _) _;have ym:=Zh Mx;have hob:=Wq.b;have hog:=Wq.g;have GD:=Wq.p;clear VQ Mx Wq;go_upto_region 5 with (with_reducible refine ZU 173 (.tmp 4) (.tmp 13) rfl ?_;refine ZV rfl 173 (.tmp 4) (.tmp 13) rfl rfl wr.heap.size (Jq i ba bc ga gc pa pc) rfl rfl 173 YZ hz ZB ZB ZB ?_)
   clear hz c0 c1 c2 c3 c4 c5 c6 c7 c8 c9;generalize ((wr.alloc (.cells YZ 173)).setRow wr.heap.size (Jq i ba bc ga gc pa pc))=w2 at *
   have HCB:Hid (∀ w',Below w2 w2 w'→Calls Tryz.prog 158 #[.slice ba i.blocks.length bc] w' fun e w''=>(∃ v',e = .returned v'∧w''.ownsRow w' 228 7 v' i.blocks.length (i.blocks.flatMap Xb))∧Below w' w' w''):=fun w' h=>EY _ _ _ w' (Row.below (Row.below ym.o.b X8.o) h) (XG Xb 7 (fun _=>rfl) _) (U4 fun x _=>BS x) Zo
   have HCU:Hid (∀ w',Below w2 w2 w'→Calls Tryz.prog 112 #[.slice ga i.gone.length gc] w' fun e w''=>(∃ v',e = .returned v'∧w''.ownsRow w' 66 1 v' i.gone.length (YO i.gone))∧Below w' w' w''):=fun w' h=>E6 _ _ _ w' (Row.below (Row.below ym.o.g X8.o) h) (by rw [Dt];omega) (Kt _) Zo
   have HCP:Hid (∀ w',Below w2 w2 w'→Calls Tryz.prog 159 #[.slice pa i.XA.length pc] w' fun e w''=>(∃ v',e = .returned v'∧w''.ownsRow w' 226 2 v' i.XA.length (i.XA.flatMap Wj))∧Below w' w' w''):=fun w' h=>E5 _ _ _ w' (Row.below (Row.below ym.o.p X8.o) h) (XG Wj 2 (fun _=>rfl) _) (U4 fun x _=>Ay x) Zo
   have Ia:wr.heap.size<w2.heap.size:=ZW N7
   have Zz:Hid (∀ w':World,w'.heap[wr.heap.size]?=w2.heap[wr.heap.size]?→w'.cell? ⟨wr,6,none⟩=some (.slice ba i.blocks.length bc)∧w'.cell? ⟨wr,7,none⟩=some (.slice ga i.gone.length gc)∧w'.cell? ⟨wr,9,none⟩=some (.slice pa i.XA.length pc)):=fun w' h=>
    ⟨Zc (h.trans N7) 6 rfl,Zc (h.trans N7) 7 rfl,Zc (h.trans N7) 9 rfl⟩
   refine SX ?_;refine wp_region_held_drew (S:=(fun w'=>w'.cell? ⟨wr,6,none⟩=some (.slice ba i.blocks.length bc)∧w'.cell? ⟨wr,7,none⟩=some (.slice ga i.gone.length gc)∧w'.cell? ⟨wr,9,none⟩=some (.slice pa i.XA.length pc))) ZB ?_ (fun _=>?_)
   ·(try dsimp only)
    exact Zz.o _ rfl
   refine YA 0 (h:=YA 1 (h:=YA 2 (h:=YA 3 (h:=YA 4 (h:=YA 5 (h:=YA 6 (h:=YA 7 (h:=YA 9 (h:=YA 10 (h:=YA 12 (h:=YA 13 (h:=?_))))))))))));refine R7 8 (h:=fun K hK=>?_);go_simp;refine (HCB.o _ (YJ _ _).drew).mono ?_;rintro e w3 ⟨⟨bv,rfl,ho⟩,hb⟩;obtain ⟨rV,rW,kC,-⟩:=Row.Z6 ho;subst kC;have iJ:=Zh (Row.Z6 ho);have Wc:Hid (Below w2 w2 w3):=(YJ w2.heap.size w2).drew.trans hb;have LR:Hid (w3.heap[wr.heap.size]?=w2.heap[wr.heap.size]?):=Wc.o.block _ Ia;clear ho hb;go_wp2_with fail
   refine hK.out _ _ ?_ (fun _=>?_)
   ·exact rP
   clear hK K;try simp only [Z_.pt]
   refine R7 11 (h:=fun K hK=>?_);go_simp;refine (HCU.o _ Wc.o).mono ?_;rintro e w4 ⟨⟨gv,rfl,ho⟩,hb⟩;obtain ⟨jK,jN,kC,-⟩:=Row.Z6 ho;subst kC;have HO4:=Zh (Row.Z6 ho);have HB34:Hid (Below w3 w3 w4):=hb;have Ux:Hid (Below w2 w2 w4):=Wc.o.trans (hb.mono Wc.o.size);have lf:Hid (w4.heap[wr.heap.size]?=w2.heap[wr.heap.size]?):=Ux.o.block _ Ia;clear ho hb;go_wp2_with fail
   refine hK.out _ _ ?_ (fun _=>?_)
   ·exact rP
   clear hK K;try simp only [Z_.pt]
   refine R7 14 (h:=fun K hK=>?_);go_simp;refine (HCP.o _ Ux.o).mono ?_;rintro e w5 ⟨⟨pv,rfl,ho⟩,hb⟩;obtain ⟨pa',pc',kC,-⟩:=Row.Z6 ho;subst kC;have fk:=Zh (Row.Z6 ho);have HB45:Hid (Below w4 w4 w5):=hb;have Rl:Hid (Below w2 w2 w5):=Ux.o.trans (hb.mono Ux.o.size);have ug:Hid (w5.heap[wr.heap.size]?=w2.heap[wr.heap.size]?):=Rl.o.block _ Ia;have lU:Hid (Below wr wr w5):=X8.o.trans (Rl.o.mono X8.o.size);have zU:w5.heap[g]?=some (.cells cur 173):=(lU.o.block g Bh).trans JB;have h5o:=Yw Yh.o lU.o;obtain ⟨g5,eu,e3,sf⟩:=wO (Row.Z6 h5o) Zo;cases e3;have sf:=sf j _ HQX.o;have k6:=sf 6 Zo;have k7:=sf 7 Zo;have k9:=sf 9 Zo;simp only [YX,SD,R8,QD] at k6 k7 k9;have f6:w5.frozen? ⟨g,j*10+6,none⟩=false:=ZO zU _;have f7:w5.frozen? ⟨g,j*10+7,none⟩=false:=ZO zU _;have f9:w5.frozen? ⟨g,j*10+9,none⟩=false:=ZO zU _;have hxg:wr.heap.size≠g:=by omega
   clear ho hb sf;go_wp2_with fail
   refine hK.out _ _ ?_ (fun _=>?_)
   ·exact rP
   clear hK K;try simp only [Z_.pt]
   refine YA 15 (h:=YA 16 (h:=?_));refine R7 17 (h:=fun K hK=>?_);go_simp;have bz:Hid ((w5.setCell ⟨g,j*10+6,none⟩ (.slice rV i.blocks.length rW)).heap[wr.heap.size]?=w2.heap[wr.heap.size]?):=(MH w5 ⟨g,j*10+6,none⟩ _ wr.heap.size hxg).trans ug.o;have k7':(w5.setCell ⟨g,j*10+6,none⟩ (.slice rV i.blocks.length rW)).cell? ⟨g,j*10+7,none⟩=some (.slice ga i.gone.length gc):=(World.cell?_setCell_other _ _ _ _ Zi).trans k7;have f7':(w5.setCell ⟨g,j*10+6,none⟩ (.slice rV i.blocks.length rW)).frozen? ⟨g,j*10+7,none⟩=false:=ZO (VH zU _ _) _;refine hK.out _ _ ?_ (fun _=>?_)
   ·exact rP
   clear hK K;try simp only [Z_.pt]
   refine YA 18 (h:=YA 19 (h:=?_));refine R7 20 (h:=fun K hK=>?_);go_simp;have fq:Hid (((w5.setCell ⟨g,j*10+6,none⟩ (.slice rV i.blocks.length rW)).setCell ⟨g,j*10+7,none⟩ (.slice jK i.gone.length jN)).heap[wr.heap.size]?=w2.heap[wr.heap.size]?):=(MH (w5.setCell ⟨g,j*10+6,none⟩ (.slice rV i.blocks.length rW)) ⟨g,j*10+7,none⟩ _ wr.heap.size hxg).trans bz.o;have k9':((w5.setCell ⟨g,j*10+6,none⟩ (.slice rV i.blocks.length rW)).setCell ⟨g,j*10+7,none⟩ (.slice jK i.gone.length jN)).cell? ⟨g,j*10+9,none⟩=some (.slice pa i.XA.length pc):=(World.cell?_setCell_other _ _ _ _ Zi).trans ((World.cell?_setCell_other _ _ _ _ Zi).trans k9);have f9':((w5.setCell ⟨g,j*10+6,none⟩ (.slice rV i.blocks.length rW)).setCell ⟨g,j*10+7,none⟩ (.slice jK i.gone.length jN)).frozen? ⟨g,j*10+9,none⟩=false:=ZO (VH (VH zU _ _) _ _) _;refine hK.out _ _ ?_ (fun _=>?_)
   ·exact rP
   clear hK K;try simp only [Z_.pt]
   refine YA 21 (h:=YA 22 (h:=?_));refine R7 23 (h:=fun K hK=>?_);go_simp;have HX8:Hid ((((w5.setCell ⟨g,j*10+6,none⟩ (.slice rV i.blocks.length rW)).setCell ⟨g,j*10+7,none⟩ (.slice jK i.gone.length jN)).setCell ⟨g,j*10+9,none⟩ (.slice pa' i.XA.length pc')).heap[wr.heap.size]?=w2.heap[wr.heap.size]?):=(MH ((w5.setCell ⟨g,j*10+6,none⟩ (.slice rV i.blocks.length rW)).setCell ⟨g,j*10+7,none⟩ (.slice jK i.gone.length jN)) ⟨g,j*10+9,none⟩ _ wr.heap.size hxg).trans fq.o;refine hK.out _ _ ?_ (fun _=>?_)
   ·exact rP
   clear hK K;try simp only [Z_.pt]
   refine wpAnyH_done ZB ?_ _;refine RA ?_;go_wp2_with fail
   go_roundw
   case rel=>
    have e0:Below w w w5:=Sy.o.trans (lU.o.mono TR);have e1:Below w w (((w5.setCell ⟨g,j*10+6,none⟩ (.slice rV i.blocks.length rW)).setCell ⟨g,j*10+7,none⟩ (.slice jK i.gone.length jN)).setCell ⟨g,j*10+9,none⟩ (.slice pa' i.XA.length pc')):=((((Fr.Z7 PN e0).setCell (p:=⟨g,j*10+6,none⟩) (Ws hwg) _).setCell (p:=⟨g,j*10+7,none⟩) (Ws hwg) _).setCell (p:=⟨g,j*10+9,none⟩) (Ws hwg) _).below;have e2:=Ph (Ph (Ph h5o Zo (j*10+6) (.slice rV i.blocks.length rW)) Zo (j*10+7) (.slice jK i.gone.length jN)) Zo (j*10+9) (.slice pa' i.XA.length pc');rw [HQJ.o] at e2;have g6:=VH zU (j*10+6) (.slice rV i.blocks.length rW);have g7:=VH g6 (j*10+7) (.slice jK i.gone.length jN);refine ⟨j+1,_,Zo,Zn,(HMAP.o _ _ _).trans HQ.o,e2,fun x hx=>?_,e1⟩;rcases List.mem_or_eq_of_mem_set hx with hx|rfl
    ·exact ((((FV.o x hx).below lU.o).setAt zU _ _).setAt g6 _ _).setAt g7 _ _
    ·have hn:Uf w5 ⟨i,(.slice rV i.blocks.length rW),(.slice jK i.gone.length jN),(.slice pa' i.XA.length pc')⟩:=⟨Row.below (Row.below iJ.o HB34.o) HB45.o,Row.below HO4.o HB45.o,fk.o⟩;exact ((hn.setAt zU _ _).setAt g6 _ _).setAt g7 _ _
   case measure=>simp [intOf];omega
  ·have Mc:j=L.length:=by omega
   have HMQ:Hid (YI wr (.slice va L.length vc) (L.map (·.i))):=⟨Q,HQ.o.symm,by rw [hQl];exact Row.Z6 Yh.o,FV.o⟩;clear YH;go_wp2;go_ret;exact ⟨⟨_,rfl,HMQ.o⟩,Sy.o⟩
theorem rU {b:List UInt8} (h:b.length<2):at8 b 1=0:=by
 unfold at8;rw [SC,List.getElem?_eq_none Zo];rfl
theorem xO (v:Value) (b:List UInt8) (w:World) (hv:X6 w v b) :
  Calls Tryz.prog 105 #[v] w fun e w'=>(∃ a,e = .returned (.tuple #[a,.int .i64 (XN b).2])∧vv w' a (XN b).1)∧Below w w w':=by
 by_cases h3:192≤at8 b 1∧at8 b 1≤223
 rotate_left
 ·exact Lx v b w hv h3
 have hlen:=hv.len;have h2:¬b.length<2:=fun h=>by rw [rU h] at h3;omega
 by_cases h1:512<b.length
 ·have HX:Hid (XN b=(.none,5)):=by show _=_;unfold XN;rw [ZR h1]
  exact bR
 have HX:Hid (XN b=if (Yj b).2≠0 then (.none,(Yj b).2) else (.XX (Yj b).1,0)):=by
  show _=_
  conv=>lhs;unfold XN
  rw [Z4 h1,Z4 h2,ZR h3]
 have HC:=Zh (AP v b w hv);obtain ⟨g,off,c,rfl,R4,zZ,W8⟩:=RR hv Zo;have d1:=W8 1 Zo;clear W8 hv R4 zZ;have hbI:(1:Int)<(b.length:Int):=by omega
 have hbN:1<b.length:=by omega
 generalize XN b=X at *
 generalize Yj b=Y at *
 obtain ⟨L,er⟩:=Y;dsimp only at HC HX;have gS:=fun (x:Value) (w:World)=>run_makeInterface (P:=Tryz.prog) w 213 x ZB
 obtain ⟨wF,Ee⟩:=h3;generalize at8 b 1=kd at *
 have l1:decide ((192:Int)≤(kd:Int))=true:=Wi Zo;have l2:decide ((kd:Int)≤223)=true:=Wi Zo;go_enter Tryz.func105,Tryz.ntmps105;go_upto_region 7 with (go_at_call 124;refine HC.o.mono ?_;rintro e w2 ⟨⟨iv,rfl,hit⟩,Y7⟩;obtain ⟨ia,ic,zV⟩:=YI.form hit;subst zV;have FV:=Zh hit;have X8:=Zh Y7;clear hit Y7)
 clear HC;by_cases RU:er=0
 ·subst RU;rw [Z4 Zi] at HX;go_wp2_with fail
  go_ret2
  exact ⟨⟨_,by rw [HX.o];rfl,by rw [HX.o];exact ⟨_,rfl,FV.o⟩⟩,X8.o⟩
 ·have bl:(er != 0)=true:=by rw [RQ];exact RU
  have bl2:(er == 0)=false:=by rw [WR];exact RU
  rw [ZR RU] at HX;go_wp2_with fail
  go_ret2
  exact ⟨⟨.nilIface,by rw [HX.o];rfl,by rw [HX.o];rfl⟩,X8.o⟩
end Go.Proofs.By
