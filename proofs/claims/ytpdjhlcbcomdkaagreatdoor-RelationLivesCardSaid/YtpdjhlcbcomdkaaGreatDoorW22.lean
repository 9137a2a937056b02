/- Part of a proof. -/
import Derived.Test.YtpdjhlcbcomdkaaGreatDoorW21
set_option linter.unusedVariables false
set_option linter.unusedSimpArgs false
set_option maxRecDepth 100000
set_option maxHeartbeats 16000000
open Go Go.Q Go.Qr
namespace Go.Proofs.By
open Go.RowKit Go.Proofs.Heap
theorem Xk {P:Program} {ops:Array Oper} {o:Oper} {a:Act} {w:World} {K:Act→World→Prop} {Q:Exit→Act→World→Prop} {E':Prop} (Mq:o.guard=none) {t e:TypeId} {size bytes:Nat} (E:Elem P t e size bytes) (x:Operand) (ho:o.op = .buildSlice t 1 #[(0,x)])
  (cells:Array Value) (hx:a.eval x = .agg cells) (hs:cells.size=size) (Vq:size≤1000)
  (h:K (a.put o.dst (.slice (some ⟨w,0,none⟩) 1 1)) (w.alloc (.cells cells e))):if Region.wanted o (yielded ops a.tmps)=true then Oper.wp P o a w K Q else E':=by
 have hw:Region.wanted o (yielded ops a.tmps)=true:=by simp [Region.wanted,Mq]
 rw [ZQ hw]
 obtain ⟨z,UH,mr⟩:=E.info
 obtain ⟨i,hi,hz,Sq,yS⟩:=info_parts UH
 have QQ:=E.pos
 refine Go.wp_buildSlice t e 1 #[(0,x)] ho cells i z E.ht hi hz (by rw [Sq];omega) (by rw [Sq];omega) ?_ h
 have hf:=Go.Great.fill_whole (s:=i.size) Zo [.agg cells] ((Array.range (1*i.size)).map (z.cells[· % z.cells.size]!)) (fun v hv=>by rw [Kc] at hv;subst hv;show cells.size=_;omega) Zi
 have e1:([Value.agg cells].flatMap fun v=>v.cells.toList).toArray=cells:=by simp [Value.cells]
 rw [e1] at hf
 simpa [hx] using hf
theorem Ik:Elem Tryz.prog 82 173 10 120:=⟨Tryz.underlying82,⟨.agg YY,by kernel_rfl,rfl⟩,by decide⟩
def comb (L:List RF) (x:List RF × Int):List RF × Int:=if x.2≠0 then ([],x.2) else (L++x.1,0)
theorem zS (L:List RF) (k:Nat) {r:List UInt8} (h:(Y7 r).2≠0):comb L (YE (k+1) r)=([],(Y7 r).2):=by
 have e:YE (k+1) r=([],(Y7 r).2):=by unfold YE;rw [ZQ h]
 rw [e];unfold comb;rw [ZQ h]
theorem Ea (L:List RF) (k:Nat) {r:List UInt8} (h:(Y7 r).2=0) (hl:r.length-(Y7 r).1.2=0):comb L (YE (k+1) r)=(L++[(Y7 r).1.1],0):=by
 have e:YE (k+1) r=([(Y7 r).1.1],0):=by unfold YE;rw [Z4 (by simp [h]),ZQ hl]
 rw [e];rfl
theorem Eb (L:List RF) (k:Nat) {r:List UInt8} (h:(Y7 r).2=0) (hl:¬r.length-(Y7 r).1.2=0):comb L (YE (k+1) r)=comb (L++[(Y7 r).1.1]) (YE k (r.drop (Y7 r).1.2)):=by
 have e:YE (k+1) r=(if (YE k (r.drop (Y7 r).1.2)).2≠0 then ([],(YE k (r.drop (Y7 r).1.2)).2) else ((Y7 r).1.1 :: (YE k (r.drop (Y7 r).1.2)).1,0)):=by
  conv=>lhs;unfold YE
  rw [Z4 (by simp [h]),Z4 hl]
 rw [e]
 generalize YE k (r.drop (Y7 r).1.2)=y
 by_cases h2:y.2≠0
 ·rw [ZQ h2]
  unfold comb
  rw [ZQ h2,ZQ h2]
 ·rw [Z4 h2]
  unfold comb
  rw [Z4 h2,gV]
  exact Z4 Zi
theorem JU {k:Nat} {b:List UInt8} (h:(YE k b).2≠0):YE k b=([],(YE k b).2):=by
 cases k with
 | zero=>rfl
 | succ k=>
  unfold YE at h ⊢
  by_cases h1:(Y7 b).2≠0
  ·rw [ZQ h1]
  rw [Z4 h1] at h ⊢
  by_cases h2:b.length-(Y7 b).1.2=0
  ·rw [ZQ h2] at h;exact absurd rfl h
  rw [Z4 h2] at h ⊢
  dsimp only at h ⊢
  by_cases h3:(YE k (b.drop (Y7 b).1.2)).2≠0
  ·rw [ZQ h3]
  ·rw [Z4 h3] at h;exact absurd rfl h
theorem G3 {b:List UInt8} (h:(Y7 b).2=0):(Y7 b).1.2≤b.length:=by
 unfold Y7 at h ⊢
 by_cases h1:b.length<4
 ·rw [ZQ h1] at h;cases h
 rw [Z4 h1] at h ⊢
 by_cases h2:at8 b 0 / 32≠4
 ·rw [ZQ h2] at h;cases h
 rw [Z4 h2] at h ⊢
 by_cases h3:(Xx b).2=false
 ·rw [ZQ h3] at h;cases h
 rw [Z4 h3] at h ⊢
 by_cases h4:(Xx b).1=200∨(Xx b).1=201
 ·rw [ZQ h4] at h ⊢
  unfold X4 at h ⊢
  by_cases h5:(right b).2≠0
  ·rw [ZQ h5] at h;exact absurd h h5
  ·rw [Z4 h5]
   have:=Ho (b:=b) Zo
   show (right b).1≤_
   rw [this.2.2.2.1]
   exact this.2.2.2.2
 rw [Z4 h4] at h ⊢
 dsimp only at h ⊢
 by_cases h5:(XN b (Xx b).1).2=false
 ·rw [ZQ h5] at h;cases h
 rw [Z4 h5] at h ⊢
 by_cases h6:b.length<(XN b (Xx b).1).1
 ·rw [ZQ h6] at h;cases h
 rw [Z4 h6]
 show (XN b (Xx b).1).1≤_
 omega
def p9:Value→Nat
 | .slice _ n _=>n
 | _=>0
theorem XZ {w w':World} {row:Option Nat} (hg:w.grownBy w' row):Fr w (fun k=>row=some k) w w':=⟨hg.os,hg.tape,hg.output,hg.size,fun k hk hs=>hg.block k hk (fun e=>hs e.symm)⟩
theorem Zf {base:Nat} {e e2:TypeId} {size:Nat} {v:Value} {n:Nat} {xs:List Value} {w:World} (h:w.ownsRow base e size v n xs) (WM:e2≠e):∀ k c fr,v.ownBlock=some k→w.heap[k]?≠some (.cells c e2 fr):=by
 intro k c fr hk hc
 obtain ⟨_,h⟩:=h
 rcases h with ⟨rfl,_⟩|⟨g,cap,cur,rfl,hg,hh,_⟩
 ·cases hk
 ·have hk:some g=some k:=hk
  cases hk
  rw [hh] at hc
  injection hc with hc
  injection hc with _ hc
  exact WM hc.symm
theorem Uo.yR {w w':World} {x:R5} {S:Nat→Prop} (h:Uo w x) (hf:Fr w S w w') (h1:∀ k c fr,S k→w.heap[k]?≠some (.cells c 228 fr)) (h2:∀ k c fr,S k→w.heap[k]?≠some (.cells c 66 fr)) (h3:∀ k c fr,S k→w.heap[k]?≠some (.cells c 226 fr)):Uo w' x:=
 ⟨Row.fr h.b hf (Zw _) h1,Row.fr h.g hf (Zw _) h2,Row.fr h.p hf (Zw _) h3⟩
theorem A7 (v:Value) (b:List UInt8) (w:World) (hv:X9 w v b) :
  Calls Tryz.prog 124 #[v] w fun e w'=>(∃ a,e = .returned (.tuple #[a,.int .i64 (Ym b).2])∧YI w' a (Ym b).1)∧Below w w w':=by
 have HX:Hid (Ym b=if 512<b.length then ([],5) else YE 8 b):=rfl
 have HV:Hid (∀ w',Below w w w'→X9 w' v b):=fun w' h=>hv.below h
 have hlen:=hv.len
 obtain ⟨va,c,rfl,Sg,-⟩:=id hv
 clear hv Sg
 generalize Ym b=X at *
 by_cases h1:512<b.length
 ·rw [ZQ h1] at HX
  clear HV
  go_enter Tryz.func124,Tryz.ntmps124
  go_wp2_with fail
  go_ret2
  exact ⟨⟨.slice none 0 0,by rw [HX.o];rfl,by rw [HX.o];exact YI.nil _⟩,YH _ _⟩
 rw [Z4 h1] at HX
 have bJ:Hid (YE 8 b=comb [] (YE (8-0) b)):=by
  show _=_
  unfold comb
  by_cases h:(YE 8 b).2≠0
  ·rw [ZQ h]
   obtain ⟨y,hy⟩:∃ y,y=YE 8 b:=⟨_,rfl⟩
   exact JU h
  ·rw [Z4 h]
   have h:(YE 8 b).2=0:=by omega
   show YE 8 b=([]++(YE 8 b).1,0)
   rw [Jy,←h]
 go_enter Tryz.func124,Tryz.ntmps124
 go_upto_region 4 with fail
 go_loopw [0,4] (fun s0 s4 w'=>∃ (j:Nat) (r:List UInt8) (ra:Option Addr) (rc:Nat) (L:List R5),j≤8∧L.length=j∧r.length≤512∧s0 = .slice ra r.length rc∧p9 s4=j∧Below w w w'∧w'.ownsRow w 173 10 s4 j (L.flatMap YX)∧(∀ x∈L,Uo w' x)∧Hid (∀ w'',Below w w w''→X9 w'' (.slice ra r.length rc) r)∧Hid (YE 8 b=comb (L.map (·.i)) (YE (8-j) r))) (fun _ s4 _=>8-p9 s4)
 case atStart=>exact ⟨0,b,va,c,[],Tw _,rfl,Zo,rfl,rfl,YH _ _,Ua _ _ _ _,fun _ h=>by (exact absurd h Zi),HV.o,bJ.o⟩
 case round=>
  clear bJ HV
  obtain ⟨j,r,ra,rc,L,hj,hLj,hr,rfl,-,Wn,YJ,P4,HR,HG⟩:=hrel
  obtain ⟨oa,oc,rfl,-,-⟩:=Row.Z6 YJ
  have SG:=Zh Wn
  have Yl:=Zh YJ
  have Ge:=Zh P4
  have T5:=Wn.size
  have HLJ:=Zh hLj
  clear Wn YJ P4 hLj
  by_cases h8:j=8
  ·subst h8
   go_wp2_with fail
   go_ret2
   exact ⟨⟨.slice none 0 0,by rw [HX.o,HG.o];rfl,by rw [HX.o,HG.o];exact YI.nil _⟩,SG.o⟩
  have e8:((j:Int) == 8)=false:=by rw [WQ];omega
  obtain ⟨q,hq⟩:∃ q,8-j=q+1:=⟨7-j,Zo⟩
  rw [hq] at HG
  have CI:=Zh (pZ _ r wr (HR.o _ SG.o) hr)
  have iP:r.length≤rc:=by
   have h:=HR.o _ SG.o
   obtain ⟨a1,c1,h1,h2,_⟩:=h
   injection h1 with _ _ h1
   omega
  have jo:=Zh (G3 (b:=r))
  have HE:=Zh (zS (L.map (·.i)) q (r:=r))
  have Gf:=Zh (Ea (L.map (·.i)) q (r:=r))
  have HM:=Zh (Eb (L.map (·.i)) q (r:=r))
  generalize Y7 r=Y at *
  obtain ⟨⟨i,n⟩,er⟩:=Y
  dsimp only at CI jo HE Gf HM
  go_upto_region 7 with (go_at_call 151;refine CI.o.mono ?_;rintro e w2 ⟨⟨a,rfl,hit⟩,Y0⟩;obtain ⟨xa,xc,ya,yc,za,zc,ha,ML⟩:=Lt hit;subst ha;have yL:=Zh ML;have X6:=Zh Y0;clear hit ML Y0)
  clear CI
  by_cases R9:er=0
  ·subst R9
   have hnr:n≤r.length:=jo.o Cb
   obtain ⟨a2,Uz,-,Z0⟩:=SV (P:=Tryz.prog) VL ra r.length rc n hnr iP
   have Vi:=Zh Z0
   have yV:=Z7 w2 (.cells (Jo i xa xc ya yc za zc) 173)
   have Im:=X6.o.size
   have IG:Hid (Below w w (w2.alloc (.cells (Jo i xa xc ya yc za zc) 173)).drew):=(ZC (SG.o.trans (X6.o.mono T5)) (Zw _) _).drew
   have Gb:Hid (Below w w ((w2.alloc (.cells (Jo i xa xc ya yc za zc) 173)).drew.alloc (.cells (Jo i xa xc ya yc za zc) 173))):=ZC (ZC (SG.o.trans (X6.o.mono T5)) (Zw _) _).drew (Zw _) _
   have Cz:Below w2 w2 ((w2.alloc (.cells (Jo i xa xc ya yc za zc) 173)).drew.alloc (.cells (Jo i xa xc ya yc za zc) 173)):=ZC (Z' w2 _).drew (Zw _) _
   have Oc:=Zh (Yx (Yx Yl.o X6.o) Cz)
   have uC:Hid (∀ x∈L++[⟨i,.slice xa i.blocks.length xc,.slice ya i.gone.length yc,.slice za i.XF.length zc⟩],Uo ((w2.alloc (.cells (Jo i xa xc ya yc za zc) 173)).drew.alloc (.cells (Jo i xa xc ya yc za zc) 173)) x):=fun x hx=>by
    rcases D5.1 hx with h|h
    ·exact ((Ge.o x h).below X6.o).below Cz
    ·rw [Kc] at h;subst h;exact yL.o.below Cz
   clear Cz Z0
   go_upto_region 9 with fail
   refine Sd ?_
   refine wp_region_held_drew (S:=(fun w'=>Below w w w')) ZB ?_ (fun X_=>?_)
   ·(try dsimp only)
    exact IG.o
   refine YA 0 (h:=YA 4 (h:=YA 5 (h:=YA 6 (h:=?_))))
   refine Si 1 (h:=fun K hK=>?_)
   refine RT Zr 173 (.tmp 5) Zr w2.heap.size Zr 173 (Jo i xa xc ya yc za zc) (0,0) _ yV Tryz.underlying173 rfl ZB ?_
   refine hK.out _ _ ?_ (fun XC=>?_)
   ·(try dsimp only)
    first|exact P7.o|exact Gb.o|exact IG.o
   clear hK K
   try simp only [Z_.pt]
   refine Si 2 (h:=fun K hK=>?_)
   refine Xk Zr Ik (.tmp 24) Zr (Jo i xa xc ya yc za zc) Zr Zr Zd ?_
   refine hK.out _ _ ?_ (fun VE=>?_)
   ·(try dsimp only)
    first|exact P7.o|exact Gb.o|exact IG.o
   clear hK K
   try simp only [Z_.pt]
   refine Si 3 (h:=fun K hK=>?_)
   refine Zp Zr (.tmp 23) (.tmp 25) 82 Zr w.heap.size Ik (.slice oa j oc) j (L.flatMap YX) Zr Oc.o (.slice (some ⟨(w2.alloc (.cells (Jo i xa xc ya yc za zc) 173)).drew.heap.size,0,none⟩) 1 1) 1 (Jo i xa xc ya yc za zc) Zr (VF (w2.alloc (.cells (Jo i xa xc ya yc za zc) 173)).drew 173 1 (Jo i xa xc ya yc za zc) Zd) rfl (by intro u hu;simp only [Mg,List.mem_nil_iff,or_false] at hu;rcases hu with rfl|rfl|rfl|rfl|rfl|rfl|rfl|rfl|rfl|rfl <;> rfl) Zo Zo Gb.o.size ?_
   intro v' w5 HO jl
   have HFG:=Zh (XZ jl.o)
   obtain ⟨va',vc',hva',-,-⟩:=Row.Z6 HO.o
   subst hva'
   have P7:Hid (Below w w w5):=Gb.o.trans (Fr.below (HFG.o.mono Gb.o.size (fun k hk hs=>absurd (LD Oc.o k hs) Zo)))
   refine hK.out _ _ ?_ (fun OD=>?_)
   ·(try dsimp only)
    first|exact P7.o|exact Gb.o|exact IG.o
   clear hK K
   try simp only [Z_.pt]
   refine YA 7 (h:=YA 8 (h:=?_))
   refine wpAnyH_done ZB ?_ _
   refine QY ?_
   have fP:Hid (∀ x∈L++[⟨i,.slice xa i.blocks.length xc,.slice ya i.gone.length yc,.slice za i.XF.length zc⟩],Uo w5 x):=fun x hx=>(uC.o x hx).yR HFG.o (Zf Oc.o Zd) (Zf Oc.o Zd) (Zf Oc.o Zd)
   have HFL:Hid ((L++[(⟨i,.slice xa i.blocks.length xc,.slice ya i.gone.length yc,.slice za i.XF.length zc⟩:R5)]).flatMap YX=L.flatMap YX++[.int .i64 i.kind,.int .u32 i.Yy,.int .u64 i.Iw,.int .u32 i.time,.int .u32 i.WZ,.int .u32 i.octets,.slice xa i.blocks.length xc,.slice ya i.gone.length yc,.int .u32 i.X7,.slice za i.XF.length zc]):=by
    show _=_
    rw [O_]
    rfl
   clear X_ XC VE OD uC HFG Oc IG Gb Yl Ge yV
   by_cases hl:r.length-n=0
   ·rw [hl]
    go_wp2_with fail
    go_ret2
    refine ⟨⟨.slice va' (j+1) vc',by rw [HX.o,HG.o,Gf.o Cb hl];rfl,?_⟩,P7.o⟩
    rw [HX.o,HG.o,Gf.o Cb hl]
    refine ⟨L++[⟨i,.slice xa i.blocks.length xc,.slice ya i.gone.length yc,.slice za i.XF.length zc⟩],by rw [N7];rfl,?_,fP.o⟩
    rw [HFL.o,UM,HLJ.o]
    exact Row.Z6 HO.o
   ·have bl:(((r.length-n:Nat):Int) == 0)=false:=by rw [WQ];omega
    have u7:(r.drop n).length=r.length-n:=Rx
    go_wp2_with fail
    go_roundw
    case rel=>
     refine ⟨j+1,r.drop n,a2,rc-n,L++[⟨i,.slice xa i.blocks.length xc,.slice ya i.gone.length yc,.slice za i.XF.length zc⟩],Zo,by rw [UM,HLJ.o];rfl,Zo,by rw [u7],rfl,P7.o,by rw [HFL.o];exact HO.o,fP.o,?_,?_⟩
     ·intro w'' h
      have h5:=Vi.o w'' (RX r) (by rw [Xl,Nat.mul_one]) (HR.o w'' h)
      rw [Nat.mul_one,QZ] at h5
      show XU _ _ (r.drop n).length _
      rw [u7]
      exact h5
     ·show _=_
      rw [HG.o,HM.o Cb hl,N7,show 8-(j+1)=q by omega]
      rfl
    case measure=>show 8-(j+1)<8-j;omega
  ·have bl:(er != 0)=true:=by rw [R6];exact R9
   have bl2:(er == 0)=false:=by rw [WQ];exact R9
   go_wp2_with fail
   go_ret2
   exact ⟨⟨.slice none 0 0,by rw [HX.o,HG.o,HE.o R9];rfl,by rw [HX.o,HG.o,HE.o R9];exact YI.nil _⟩,ZC (SG.o.trans (X6.o.mono T5)) (Zw _) _⟩
theorem Fj (v:Value) (n:Nat) (xs:List Value) (w:World) (hv:Row w 173 v n xs) (hx:xs.length=n*10) (h1:∀ u∈xs,u.oneCell'=true) (hl:n≤1000000) :
  Calls Tryz.prog 157 #[v] w fun e w'=>(∃ v',e = .returned v'∧w'.ownsRow w 173 10 v' n xs)∧Below w w w':=by
 obtain ⟨a,cap,rfl,S9,Ol,Pv,L5⟩:=id hv
 have HV:=Zh hv
 have HN:=Zh Pv
 have nz:=Zh hx
 have mY:=Zh h1
 clear hv L5 S9 Ol Pv hx h1
 cases a with
 | none=>
  obtain ⟨h1,h2⟩:=HN.o rfl
  have HL:Hid (xs=[]):=Cc (by rw [nz.o,h1])
  have he:=fun w=>Lib.run_eql_slice_nil (P:=Tryz.prog) w 82 173 none n cap 0 0 Tryz.underlying82
  have HH1:=Zh h1
  clear h1 h2
  go_enter Tryz.func157,Tryz.ntmps157
  exact jP
 | some a=>
  have he:=fun w=>Lib.run_eql_slice_nil (P:=Tryz.prog) w 82 173 (some a) n cap 0 0 Tryz.underlying82
  clear HN
  go_enter Tryz.func157,Tryz.ntmps157
  go_wp2_with (at_builtin;refine YV rfl (.tmp 5) (.tmp 6) 82 rfl w.heap.size Ik _ 0 [] rfl (SR w 173 10) _ n xs rfl (HV.o.below (Z' _ _)) nz.o mY.o Zo Zo Zi (fun v' w1 HO HG=>?_))
  go_ret
  have hb:=((Fr.refl w.heap.size P_ w).alloc (Zw _) (.cells #[] 173)).grown HG.o Zi (by
   intro k hk
   have hk:some w.heap.size=some k:=hk
   cases hk
   exact Zw _)
  exact jS
theorem Fb (v:Value) (n:Nat) (xs:List Value) (w:World) (hv:Row w 228 v n xs) (hx:xs.length=n*7) (h1:∀ u∈xs,u.oneCell'=true) (hl:n≤1000000) :
  Calls Tryz.prog 158 #[v] w fun e w'=>(∃ v',e = .returned v'∧w'.ownsRow w 228 7 v' n xs)∧Below w w w':=by
 obtain ⟨a,cap,rfl,S9,Ol,Pv,L5⟩:=id hv
 have HV:=Zh hv
 have HN:=Zh Pv
 have nz:=Zh hx
 have mY:=Zh h1
 clear hv L5 S9 Ol Pv hx h1
 cases a with
 | none=>
  obtain ⟨h1,h2⟩:=HN.o rfl
  have HL:Hid (xs=[]):=Cc (by rw [nz.o,h1])
  have he:=fun w=>Lib.run_eql_slice_nil (P:=Tryz.prog) w 170 228 none n cap 0 0 Tryz.underlying170
  have HH1:=Zh h1
  clear h1 h2
  go_enter Tryz.func158,Tryz.ntmps158
  exact jP
 | some a=>
  have he:=fun w=>Lib.run_eql_slice_nil (P:=Tryz.prog) w 170 228 (some a) n cap 0 0 Tryz.underlying170
  clear HN
  go_enter Tryz.func158,Tryz.ntmps158
  go_wp2_with (at_builtin;refine YV rfl (.tmp 5) (.tmp 6) 170 rfl w.heap.size M9 _ 0 [] rfl (SR w 228 7) _ n xs rfl (HV.o.below (Z' _ _)) nz.o mY.o Zo Zo Zi (fun v' w1 HO HG=>?_))
  go_ret
  have hb:=((Fr.refl w.heap.size P_ w).alloc (Zw _) (.cells #[] 228)).grown HG.o Zi (by
   intro k hk
   have hk:some w.heap.size=some k:=hk
   cases hk
   exact Zw _)
  exact jS
theorem Fl (v:Value) (n:Nat) (xs:List Value) (w:World) (hv:Row w 66 v n xs) (hx:xs.length=n*1) (h1:∀ u∈xs,u.oneCell'=true) (hl:n≤1000000) :
  Calls Tryz.prog 112 #[v] w fun e w'=>(∃ v',e = .returned v'∧w'.ownsRow w 66 1 v' n xs)∧Below w w w':=by
 obtain ⟨a,cap,rfl,S9,Ol,Pv,L5⟩:=id hv
 have HV:=Zh hv
 have HN:=Zh Pv
 have nz:=Zh hx
 have mY:=Zh h1
 clear hv L5 S9 Ol Pv hx h1
 cases a with
 | none=>
  obtain ⟨h1,h2⟩:=HN.o rfl
  have HL:Hid (xs=[]):=Cc (by rw [nz.o,h1])
  have he:=fun w=>Lib.run_eql_slice_nil (P:=Tryz.prog) w 29 66 none n cap 0 0 Tryz.underlying29
  have HH1:=Zh h1
  clear h1 h2
  go_enter Tryz.func112,Tryz.ntmps112
  exact jP
 | some a=>
  have he:=fun w=>Lib.run_eql_slice_nil (P:=Tryz.prog) w 29 66 (some a) n cap 0 0 Tryz.underlying29
  clear HN
  go_enter Tryz.func112,Tryz.ntmps112
  go_wp2_with (at_builtin;refine YV rfl (.tmp 5) (.tmp 6) 29 rfl w.heap.size Vu _ 0 [] rfl (SR w 66 1) _ n xs rfl (HV.o.below (Z' _ _)) nz.o mY.o Zo Zo Zi (fun v' w1 HO HG=>?_))
  go_ret
  have hb:=((Fr.refl w.heap.size P_ w).alloc (Zw _) (.cells #[] 66)).grown HG.o Zi (by
   intro k hk
   have hk:some w.heap.size=some k:=hk
   cases hk
   exact Zw _)
  exact jS
theorem Fk (v:Value) (n:Nat) (xs:List Value) (w:World) (hv:Row w 226 v n xs) (hx:xs.length=n*2) (h1:∀ u∈xs,u.oneCell'=true) (hl:n≤1000000) :
  Calls Tryz.prog 159 #[v] w fun e w'=>(∃ v',e = .returned v'∧w'.ownsRow w 226 2 v' n xs)∧Below w w w':=by
 obtain ⟨a,cap,rfl,S9,Ol,Pv,L5⟩:=id hv
 have HV:=Zh hv
 have HN:=Zh Pv
 have nz:=Zh hx
 have mY:=Zh h1
 clear hv L5 S9 Ol Pv hx h1
 cases a with
 | none=>
  obtain ⟨h1,h2⟩:=HN.o rfl
  have HL:Hid (xs=[]):=Cc (by rw [nz.o,h1])
  have he:=fun w=>Lib.run_eql_slice_nil (P:=Tryz.prog) w 171 226 none n cap 0 0 Tryz.underlying171
  have HH1:=Zh h1
  clear h1 h2
  go_enter Tryz.func159,Tryz.ntmps159
  exact jP
 | some a=>
  have he:=fun w=>Lib.run_eql_slice_nil (P:=Tryz.prog) w 171 226 (some a) n cap 0 0 Tryz.underlying171
  clear HN
  go_enter Tryz.func159,Tryz.ntmps159
  go_wp2_with (at_builtin;refine YV rfl (.tmp 5) (.tmp 6) 171 rfl w.heap.size K_ _ 0 [] rfl (SR w 226 2) _ n xs rfl (HV.o.below (Z' _ _)) nz.o mY.o Zo Zo Zi (fun v' w1 HO HG=>?_))
  go_ret
  have hb:=((Fr.refl w.heap.size P_ w).alloc (Zw _) (.cells #[] 226)).grown HG.o Zi (by
   intro k hk
   have hk:some w.heap.size=some k:=hk
   cases hk
   exact Zw _)
  exact jS
end Go.Proofs.By
namespace Go.Proofs.By
open Go.RowKit Go.Proofs.Heap
theorem DK (l:List Int):(YO l).length=l.length:=Tx _
theorem KI (l:List Int):∀ u∈YO l,u.oneCell'=true:=by
 intro u hu
 obtain ⟨x,_,rfl⟩:=wD.1 hu
 rfl
theorem My {w:World} {base:Nat} {e:TypeId} {size:Nat} {v:Value} {n:Nat} {xs:List Value} (h:w.ownsRow base e size v n xs) (hn:0<n):∃ g cap cur,v = .slice (some ⟨g,0,none⟩) n cap∧base≤g∧w.heap[g]?=some (.cells cur e):=by
 obtain ⟨_,h⟩:=h
 rcases h with ⟨_,h⟩|⟨g,cap,cur,hv,hg,hh,h1,h2,h3,h4⟩
 ·omega
 ·exact ⟨g,cap,cur,hv,hg,hh⟩
theorem PA {w:World} {base:Nat} {e:TypeId} {size:Nat} {n:Nat} {xs:List Value} {g cap:Nat} (h:w.ownsRow base e size (.slice (some ⟨g,0,none⟩) n cap) n xs) (hn:0<n) (i:Nat) (u:Value):(w.setCell ⟨g,i,none⟩ u).ownsRow base e size (.slice (some ⟨g,0,none⟩) n cap) n (xs.set i u):=by
 exact Yx92
theorem AA (u:Value):∀ (Q:List R5) (k:Nat) (hk:k<Q.length),(Q.flatMap YX).set (k*10+6) u=(Q.set k {Q[k] with bv:=u}).flatMap YX
 | [],k,hk=>by simp at hk
 | x :: Q,0,_=>by simp [YX]
 | x :: Q,k+1,hk=>by
  have ih:=AA u Q k (by simpa using hk)
  rw [List.flatMap_cons,List.set_append_right _ _ (by show 10≤_;omega),List.set_cons_succ,List.flatMap_cons]
  have:(k+1)*10+6-(YX x).length=k*10+6:=by show _-10=_;omega
  rw [this,ih]
  rfl
theorem AB (u:Value):∀ (Q:List R5) (k:Nat) (hk:k<Q.length),(Q.flatMap YX).set (k*10+7) u=(Q.set k {Q[k] with gv:=u}).flatMap YX
 | [],k,hk=>by simp at hk
 | x :: Q,0,_=>by simp [YX]
 | x :: Q,k+1,hk=>by
  have ih:=AB u Q k (by simpa using hk)
  rw [List.flatMap_cons,List.set_append_right _ _ (by show 10≤_;omega),List.set_cons_succ,List.flatMap_cons]
  have:(k+1)*10+7-(YX x).length=k*10+7:=by show _-10=_;omega
  rw [this,ih]
  rfl
theorem AE (u:Value):∀ (Q:List R5) (k:Nat) (hk:k<Q.length),(Q.flatMap YX).set (k*10+9) u=(Q.set k {Q[k] with pv:=u}).flatMap YX
 | [],k,hk=>by simp at hk
 | x :: Q,0,_=>by simp [YX]
 | x :: Q,k+1,hk=>by
  have ih:=AE u Q k (by simpa using hk)
  rw [List.flatMap_cons,List.set_append_right _ _ (by show 10≤_;omega),List.set_cons_succ,List.flatMap_cons]
  have:(k+1)*10+9-(YX x).length=k*10+9:=by show _-10=_;omega
  rw [this,ih]
  rfl
theorem lD (Q:List R5) (k:Nat) (hk:k<Q.length) (b g p:Value):(((Q.flatMap YX).set (k*10+6) b).set (k*10+7) g).set (k*10+9) p=(Q.set k ⟨Q[k].i,b,g,p⟩).flatMap YX:=by
 rw [AA b Q k hk,AB g _ k (by rw [List.length_set];exact hk),AE p _ k (by rw [List.length_set,List.length_set];exact hk)]
 simp [List.set_set]
theorem xu {w:World} {a:Option Addr} {n c:Nat} {l:List R5} (h:Row w 173 (.slice a n c) n (l.flatMap YX)) (hl:0<l.length):∃ g off,a=some ⟨g,off,none⟩∧∀ (i:Nat) (x:R5),l[i]?=some x→∀ j,j<10→w.cell? ⟨g,off+i*10+j,none⟩=(YX x)[j]?:=by
 have yU:=XK YX 10 (fun _=>rfl) l
 obtain ⟨g,off,cap,h1,h2,h3,h4,h5⟩:=Row.open h (by rw [yU];omega)
 injection h1 with e1 _ _
 refine ⟨g,off,e1,fun i x hx j hj=>?_⟩
 have hi:i<l.length:=(List.getElem?_eq_some_iff.1 hx).1
 rw [Nat.add_assoc,h5 (i*10+j) (by rw [yU];omega)]
 exact M_ YX 10 (fun _=>rfl) l i j x hx hj
theorem Uo.setAt {w:World} {x:R5} (h:Uo w x) {g:Nat} {c:Array Value} {f:Nat × Nat} (hg:w.heap[g]?=some (.cells c 173 f)) (o:Nat) (u:Value):Uo (w.setCell ⟨g,o,none⟩ u) x:=by
 have hf:Fr w (· = g) w (w.setCell ⟨g,o,none⟩ u):=(Fr.refl _ _ _).setAt _ _
 have WM:∀ e,173≠e→∀ k c fr,k=g→w.heap[k]?≠some (.cells c e fr):=by
  intro e he k c fr hk hc
  rw [hk,hg] at hc
  injection hc with hc
  injection hc with _ hc
  exact he hc
 exact h.yR hf (WM _ Zd) (WM _ Zd) (WM _ Zd)
theorem p7 {x:R5} (h1:∃ a n c,x.bv = .slice a n c) (h2:∃ a n c,x.gv = .slice a n c) (h3:∃ a n c,x.pv = .slice a n c):∀ u∈YX x,u.oneCell'=true:=by
 obtain ⟨i,bv,gv,pv⟩:=x
 obtain ⟨_,_,_,h1⟩:=h1
 obtain ⟨_,_,_,h2⟩:=h2
 obtain ⟨_,_,_,h3⟩:=h3
 dsimp only at h1 h2 h3
 subst h1;subst h2;subst h3
 intro u hu
 simp only [YX,Mg,List.mem_nil_iff,or_false] at hu
 rcases hu with rfl|rfl|rfl|rfl|rfl|rfl|rfl|rfl|rfl|rfl <;> rfl
theorem U' {α:Type} {f:α→List Value} {l:List α} (h:∀ x∈l,∀ u∈f x,u.oneCell'=true):∀ u∈l.flatMap f,u.oneCell'=true:=by
 intro u hu
 obtain ⟨x,hx,hu⟩:=List.mem_flatMap.1 hu
 exact h x hx u hu
theorem Ci (x:rG):∀ u∈Xf x,u.oneCell'=true:=by
 intro u hu
 simp only [Xf,Mg,List.mem_nil_iff,or_false] at hu
 rcases hu with rfl|rfl|rfl|rfl|rfl|rfl|rfl <;> rfl
theorem AW (x:Int × Int):∀ u∈Wj x,u.oneCell'=true:=by
 intro u hu
 simp only [Wj,Mg,List.mem_nil_iff,or_false] at hu
 rcases hu with rfl|rfl <;> rfl
theorem B0 (v:Value) (l:List RF) (w:World) (hv:YI w v l) (V_:∀ i∈l,Te i) (hl:l.length≤1000) :
  Calls Tryz.prog 129 #[v] w fun e w'=>(∃ v',e = .returned v'∧YI w' v' l)∧Below w w w':=by
 obtain ⟨L,rfl,Z0,P4⟩:=hv
 rw [Tx] at hl
 have P8:Hid (∀ Q:List R5,Q.map (·.i)=L.map (·.i)→∀ x∈Q,Te x.i):=fun Q hQ x hx=>V_ x.i (by rw [←hQ];exact wD.2 ⟨x,hx,rfl⟩)
 have CC:=Zh (Fj v L.length (L.flatMap YX) w Z0 (XK YX 10 (fun _=>rfl) L) (U' fun x hx=>by
  obtain ⟨_,_,h1⟩:=Row.form (P4 x hx).b
  obtain ⟨_,_,h2⟩:=Row.form (P4 x hx).g
  obtain ⟨_,_,h3⟩:=Row.form (P4 x hx).p
  exact p7 ⟨_,_,_,h1⟩ ⟨_,_,_,h2⟩ ⟨_,_,_,h3⟩) Zo)
 have Ge:=Zh P4
 clear Z0 P4 V_
 go_enter Tryz.func129,Tryz.ntmps129
 go_upto_block 3 with (go_at_call 157;refine CC.o.mono ?_;rintro e w1 ⟨⟨v1,rfl,ho1⟩,YZ⟩;obtain ⟨va,vc,eT,-⟩:=Row.Z6 ho1;subst eT;have BQ:=Zh ho1;have VQ:=Zh YZ;clear ho1 YZ)
 go_loopw [9] (fun s9 w'=>∃ (j:Nat) (Q:List R5),j≤L.length∧s9 = .int .i64 (j:Int)∧Q.map (·.i)=L.map (·.i)∧w'.ownsRow w 173 10 (.slice va L.length vc) L.length (Q.flatMap YX)∧(∀ x∈Q,Uo w' x)∧Below w w w') (fun s9 _=>L.length-(intOf s9).toNat)
 case atStart=>exact ⟨0,L,Zo,rfl,rfl,BQ.o,fun x hx=>(Ge.o x hx).below VQ.o,VQ.o⟩
 case round=>
  obtain ⟨j,Q,hj,rfl,hQ,YJ,P4,Wn⟩:=hrel
  have hQl:Q.length=L.length:=by have h:=congrArg List.length hQ;rwa [Tx,Tx] at h
  have HQ:=Zh hQ
  have SG:=Zh Wn
  have Yl:=Zh YJ
  have Gd:=Zh P4
  have T5:=Wn.size
  clear Wn P4 hQ CC BQ Ge VQ
  by_cases S4:j<L.length
  ·obtain ⟨g,cap,cur,e1,hwg,JM⟩:=My YJ Zo
   cases e1
   obtain ⟨g',off',e2,Vc⟩:=xu (Row.Z6 YJ) Zo
   cases e2
   have d_:j<Q.length:=by omega
   have Vc:=Vc j Q[j] (U7 d_)
   have ML:=Gd.o Q[j] (Ot d_)
   have V_:=P8.o Q HQ.o Q[j] (Ot d_)
   have HQJ:Hid (∀ b g p,(((Q.flatMap YX).set (j*10+6) b).set (j*10+7) g).set (j*10+9) p=(Q.set j ⟨Q[j].i,b,g,p⟩).flatMap YX):=fun b g p=>lD Q j d_ b g p
   have HMAP:Hid (∀ b g p,(Q.set j ⟨Q[j].i,b,g,p⟩).map (·.i)=Q.map (·.i)):=fun b g p=>by
    rw [List.map_set]
    apply List.ext_getElem
    ·rw [List.length_set]
    ·intro m h1 h2
     rw [List.getElem_set]
     split
     ·rename_i h;subst h;simp
     ·rfl
   clear YJ
   generalize hxq:Q[j]=x at *
   have HQX:Hid (Q[j]?=some x):=by show _=_;rw [U7 d_,hxq]
   clear hxq
   obtain ⟨i,bv,gv,pv⟩:=x
   obtain ⟨ba,bc,wQ⟩:=Row.form ML.b
   obtain ⟨ga,gc,wX⟩:=Row.form ML.g
   obtain ⟨pa,pc,Mr⟩:=Row.form ML.p
   dsimp only at wQ wX Mr V_ HQJ HMAP
   subst wQ;subst wX;subst Mr
   have c0:=Vc 0 Zo
   have c1:=Vc 1 Zo
   have c2:=Vc 2 Zo
   have c3:=Vc 3 Zo
   have c4:=Vc 4 Zo
   have c5:=Vc 5 Zo
   have c6:=Vc 6 Zo
   have c7:=Vc 7 Zo
   have c8:=Vc 8 Zo
   have c9:=Vc 9 Zo
   simp only [YX,S6,SJ,QP,gX] at c0 c1 c2 c3 c4 c5 c6 c7 c8 c9
   have Al:(j:Int)<(L.length:Int):=Ou.2 S4
   have Bz:g<wr.heap.size:=ZV JM
   have hz:=Z7 wr (.cells YY 173)
   have Ol:=setRow_heap _ _ _ (Jo i ba bc ga gc pa pc) _ _ hz
   have X6:Hid (Below wr wr ((wr.alloc (.cells YY 173)).setRow wr.heap.size (Jo i ba bc ga gc pa pc))):=Z3 (Z' wr _) (Zw _) _
   have yL:=Zh ML
   have hob:=V_.b
   have hog:=V_.g
   have BD:=V_.p
   clear Vc ML V_
   go_upto_region 5 with (with_reducible refine ZU 173 (.tmp 4) (.tmp 13) rfl ?_;refine ZW rfl 173 (.tmp 4) (.tmp 13) rfl rfl wr.heap.size (Jo i ba bc ga gc pa pc) rfl rfl 173 YY hz ZB ZB ZB ?_)
   clear hz c0 c1 c2 c3 c4 c5 c6 c7 c8 c9
   generalize ((wr.alloc (.cells YY 173)).setRow wr.heap.size (Jo i ba bc ga gc pa pc))=w2 at *
   have HCB:Hid (∀ w',Below w2 w2 w'→Calls Tryz.prog 158 #[.slice ba i.blocks.length bc] w' fun e w''=>(∃ v',e = .returned v'∧w''.ownsRow w' 228 7 v' i.blocks.length (i.blocks.flatMap Xf))∧Below w' w' w''):=fun w' h=>Fb _ _ _ w' (Row.below (Row.below yL.o.b X6.o) h) (XK Xf 7 (fun _=>rfl) _) (U' fun x _=>Ci x) Zo
   have HCU:Hid (∀ w',Below w2 w2 w'→Calls Tryz.prog 112 #[.slice ga i.gone.length gc] w' fun e w''=>(∃ v',e = .returned v'∧w''.ownsRow w' 66 1 v' i.gone.length (YO i.gone))∧Below w' w' w''):=fun w' h=>Fl _ _ _ w' (Row.below (Row.below yL.o.g X6.o) h) (by rw [DK];omega) (KI _) Zo
   have HCP:Hid (∀ w',Below w2 w2 w'→Calls Tryz.prog 159 #[.slice pa i.XF.length pc] w' fun e w''=>(∃ v',e = .returned v'∧w''.ownsRow w' 226 2 v' i.XF.length (i.XF.flatMap Wj))∧Below w' w' w''):=fun w' h=>Fk _ _ _ w' (Row.below (Row.below yL.o.p X6.o) h) (XK Wj 2 (fun _=>rfl) _) (U' fun x _=>AW x) Zo
   have Iq:wr.heap.size<w2.heap.size:=ZV Ol
   have Zz:Hid (∀ w':World,w'.heap[wr.heap.size]?=w2.heap[wr.heap.size]?→w'.cell? ⟨wr,6,none⟩=some (.slice ba i.blocks.length bc)∧w'.cell? ⟨wr,7,none⟩=some (.slice ga i.gone.length gc)∧w'.cell? ⟨wr,9,none⟩=some (.slice pa i.XF.length pc)):=fun w' h=>
    ⟨Zc (h.trans Ol) 6 rfl,Zc (h.trans Ol) 7 rfl,Zc (h.trans Ol) 9 rfl⟩
   refine Sd ?_
   refine wp_region_held_drew (S:=(fun w'=>w'.cell? ⟨wr,6,none⟩=some (.slice ba i.blocks.length bc)∧w'.cell? ⟨wr,7,none⟩=some (.slice ga i.gone.length gc)∧w'.cell? ⟨wr,9,none⟩=some (.slice pa i.XF.length pc))) ZB ?_ (fun _=>?_)
   ·(try dsimp only)
    exact Zz.o _ rfl
   refine YA 0 (h:=YA 1 (h:=YA 2 (h:=YA 3 (h:=YA 4 (h:=YA 5 (h:=YA 6 (h:=YA 7 (h:=YA 9 (h:=YA 10 (h:=YA 12 (h:=YA 13 (h:=?_))))))))))))
   refine Si 8 (h:=fun K hK=>?_)
   go_simp
   refine (HCB.o _ (YH _ _).drew).mono ?_
   rintro e w3 ⟨⟨bv,rfl,ho⟩,hb⟩
   obtain ⟨sH,sI,pQ,-⟩:=Row.Z6 ho
   subst pQ
   have HO3:=Zh (Row.Z6 ho)
   have VT:Hid (Below w2 w2 w3):=(YH w2.heap.size w2).drew.trans hb
   have KU:Hid (w3.heap[wr.heap.size]?=w2.heap[wr.heap.size]?):=VT.o.block _ Iq
   clear ho hb
   go_wp2_with fail
   refine hK.out _ _ ?_ (fun _=>?_)
   ·exact sy
   clear hK K
   try simp only [Z_.pt]
   refine Si 11 (h:=fun K hK=>?_)
   go_simp
   refine (HCU.o _ VT.o).mono ?_
   rintro e w4 ⟨⟨gv,rfl,ho⟩,hb⟩
   obtain ⟨ky,kz,pQ,-⟩:=Row.Z6 ho
   subst pQ
   have HO4:=Zh (Row.Z6 ho)
   have HB34:Hid (Below w3 w3 w4):=hb
   have Uc:Hid (Below w2 w2 w4):=VT.o.trans (hb.mono VT.o.size)
   have lZ:Hid (w4.heap[wr.heap.size]?=w2.heap[wr.heap.size]?):=Uc.o.block _ Iq
   clear ho hb
   go_wp2_with fail
   refine hK.out _ _ ?_ (fun _=>?_)
   ·exact sy
   clear hK K
   try simp only [Z_.pt]
   refine Si 14 (h:=fun K hK=>?_)
   go_simp
   refine (HCP.o _ Uc.o).mono ?_
   rintro e w5 ⟨⟨pv,rfl,ho⟩,hb⟩
   obtain ⟨pa',pc',pQ,-⟩:=Row.Z6 ho
   subst pQ
   have fU:=Zh (Row.Z6 ho)
   have HB45:Hid (Below w4 w4 w5):=hb
   have P7:Hid (Below w2 w2 w5):=Uc.o.trans (hb.mono Uc.o.size)
   have ny:Hid (w5.heap[wr.heap.size]?=w2.heap[wr.heap.size]?):=P7.o.block _ Iq
   have mK:Hid (Below wr wr w5):=X6.o.trans (P7.o.mono X6.o.size)
   have Aj:w5.heap[g]?=some (.cells cur 173):=(mK.o.block g Bz).trans JM
   have h5o:=Yx Yl.o mK.o
   obtain ⟨g5,fu,e3,sQ⟩:=xu (Row.Z6 h5o) Zo
   cases e3
   have sQ:=sQ j _ HQX.o
   have k6:=sQ 6 Zo
   have k7:=sQ 7 Zo
   have k9:=sQ 9 Zo
   simp only [YX,S6,SJ,QP] at k6 k7 k9
   have f6:w5.frozen? ⟨g,j*10+6,none⟩=false:=ZO Aj _
   have f7:w5.frozen? ⟨g,j*10+7,none⟩=false:=ZO Aj _
   have f9:w5.frozen? ⟨g,j*10+9,none⟩=false:=ZO Aj _
   have hxg:wr.heap.size≠g:=by omega
   clear ho hb sQ
   go_wp2_with fail
   refine hK.out _ _ ?_ (fun _=>?_)
   ·exact sy
   clear hK K
   try simp only [Z_.pt]
   refine YA 15 (h:=YA 16 (h:=?_))
   refine Si 17 (h:=fun K hK=>?_)
   go_simp
   have ck:Hid ((w5.setCell ⟨g,j*10+6,none⟩ (.slice sH i.blocks.length sI)).heap[wr.heap.size]?=w2.heap[wr.heap.size]?):=(MW w5 ⟨g,j*10+6,none⟩ _ wr.heap.size hxg).trans ny.o
   have k7':(w5.setCell ⟨g,j*10+6,none⟩ (.slice sH i.blocks.length sI)).cell? ⟨g,j*10+7,none⟩=some (.slice ga i.gone.length gc):=(World.cell?_setCell_other _ _ _ _ Zi).trans k7
   have f7':(w5.setCell ⟨g,j*10+6,none⟩ (.slice sH i.blocks.length sI)).frozen? ⟨g,j*10+7,none⟩=false:=ZO (VM Aj _ _) _
   refine hK.out _ _ ?_ (fun _=>?_)
   ·exact sy
   clear hK K
   try simp only [Z_.pt]
   refine YA 18 (h:=YA 19 (h:=?_))
   refine Si 20 (h:=fun K hK=>?_)
   go_simp
   have HX7:Hid (((w5.setCell ⟨g,j*10+6,none⟩ (.slice sH i.blocks.length sI)).setCell ⟨g,j*10+7,none⟩ (.slice ky i.gone.length kz)).heap[wr.heap.size]?=w2.heap[wr.heap.size]?):=(MW (w5.setCell ⟨g,j*10+6,none⟩ (.slice sH i.blocks.length sI)) ⟨g,j*10+7,none⟩ _ wr.heap.size hxg).trans ck.o
   have k9':((w5.setCell ⟨g,j*10+6,none⟩ (.slice sH i.blocks.length sI)).setCell ⟨g,j*10+7,none⟩ (.slice ky i.gone.length kz)).cell? ⟨g,j*10+9,none⟩=some (.slice pa i.XF.length pc):=(World.cell?_setCell_other _ _ _ _ Zi).trans ((World.cell?_setCell_other _ _ _ _ Zi).trans k9)
   have f9':((w5.setCell ⟨g,j*10+6,none⟩ (.slice sH i.blocks.length sI)).setCell ⟨g,j*10+7,none⟩ (.slice ky i.gone.length kz)).frozen? ⟨g,j*10+9,none⟩=false:=ZO (VM (VM Aj _ _) _ _) _
   refine hK.out _ _ ?_ (fun _=>?_)
   ·exact sy
   clear hK K
   try simp only [Z_.pt]
   refine YA 21 (h:=YA 22 (h:=?_))
   refine Si 23 (h:=fun K hK=>?_)
   go_simp
   have HX8:Hid ((((w5.setCell ⟨g,j*10+6,none⟩ (.slice sH i.blocks.length sI)).setCell ⟨g,j*10+7,none⟩ (.slice ky i.gone.length kz)).setCell ⟨g,j*10+9,none⟩ (.slice pa' i.XF.length pc')).heap[wr.heap.size]?=w2.heap[wr.heap.size]?):=(MW ((w5.setCell ⟨g,j*10+6,none⟩ (.slice sH i.blocks.length sI)).setCell ⟨g,j*10+7,none⟩ (.slice ky i.gone.length kz)) ⟨g,j*10+9,none⟩ _ wr.heap.size hxg).trans HX7.o
   refine hK.out _ _ ?_ (fun _=>?_)
   ·exact sy
   clear hK K
   try simp only [Z_.pt]
   refine wpAnyH_done ZB ?_ _
   refine QY ?_
   go_wp2_with fail
   go_roundw
   case rel=>
    have e0:Below w w w5:=SG.o.trans (mK.o.mono T5)
    have e1:Below w w (((w5.setCell ⟨g,j*10+6,none⟩ (.slice sH i.blocks.length sI)).setCell ⟨g,j*10+7,none⟩ (.slice ky i.gone.length kz)).setCell ⟨g,j*10+9,none⟩ (.slice pa' i.XF.length pc')):=((((Fr.Z8 P_ e0).setCell (p:=⟨g,j*10+6,none⟩) (Ww hwg) _).setCell (p:=⟨g,j*10+7,none⟩) (Ww hwg) _).setCell (p:=⟨g,j*10+9,none⟩) (Ww hwg) _).below
    have e2:=PA (PA (PA h5o Zo (j*10+6) (.slice sH i.blocks.length sI)) Zo (j*10+7) (.slice ky i.gone.length kz)) Zo (j*10+9) (.slice pa' i.XF.length pc')
    rw [HQJ.o] at e2
    have g6:=VM Aj (j*10+6) (.slice sH i.blocks.length sI)
    have g7:=VM g6 (j*10+7) (.slice ky i.gone.length kz)
    refine ⟨j+1,_,Zo,Zn,(HMAP.o _ _ _).trans HQ.o,e2,fun x hx=>?_,e1⟩
    rcases List.mem_or_eq_of_mem_set hx with hx|rfl
    ·exact ((((Gd.o x hx).below mK.o).setAt Aj _ _).setAt g6 _ _).setAt g7 _ _
    ·have hn:Uo w5 ⟨i,(.slice sH i.blocks.length sI),(.slice ky i.gone.length kz),(.slice pa' i.XF.length pc')⟩:=⟨Row.below (Row.below HO3.o HB34.o) HB45.o,Row.below HO4.o HB45.o,fU.o⟩
     exact ((hn.setAt Aj _ _).setAt g6 _ _).setAt g7 _ _
   case measure=>simp [intOf];omega
  ·have MM:j=L.length:=by omega
   have HMQ:Hid (YI wr (.slice va L.length vc) (L.map (·.i))):=⟨Q,HQ.o.symm,by rw [hQl];exact Row.Z6 Yl.o,Gd.o⟩
   clear YJ
   go_wp2
   go_ret
   exact ⟨⟨_,rfl,HMQ.o⟩,SG.o⟩
theorem sG {b:List UInt8} (h:b.length<2):at8 b 1=0:=by
 unfold at8
 rw [Rw,List.getElem?_eq_none Zo]
 rfl
theorem yh (v:Value) (b:List UInt8) (w:World) (hv:X9 w v b) :
  Calls Tryz.prog 105 #[v] w fun e w'=>(∃ a,e = .returned (.tuple #[a,.int .i64 (XJ b).2])∧vO w' a (XJ b).1)∧Below w w w':=by
 by_cases h3:192≤at8 b 1∧at8 b 1≤223
 rotate_left
 ·exact LP v b w hv h3
 have hlen:=hv.len
 have h2:¬b.length<2:=fun h=>by rw [sG h] at h3;omega
 by_cases h1:512<b.length
 ·have HX:Hid (XJ b=(.none,5)):=by show _=_;unfold XJ;rw [ZQ h1]
  exact cM
 have HX:Hid (XJ b=if (Ym b).2≠0 then (.none,(Ym b).2) else (.XV (Ym b).1,0)):=by
  show _=_
  conv=>lhs;unfold XJ
  rw [Z4 h1,Z4 h2,ZQ h3]
 have HC:=Zh (A7 v b w hv)
 obtain ⟨g,off,c,rfl,Sg,BC,W9⟩:=R7 hv Zo
 have d1:=W9 1 Zo
 clear W9 hv Sg BC
 have aW:(1:Int)<(b.length:Int):=by omega
 have hbN:1<b.length:=by omega
 generalize XJ b=X at *
 generalize Ym b=Y at *
 obtain ⟨L,er⟩:=Y
 dsimp only at HC HX
 have iI:=fun (x:Value) (w:World)=>run_makeInterface (P:=Tryz.prog) w 213 x ZB
 obtain ⟨sY,yV⟩:=h3
 generalize at8 b 1=kd at *
 have l1:decide ((192:Int)≤(kd:Int))=true:=We Zo
 have l2:decide ((kd:Int)≤223)=true:=We Zo
 go_enter Tryz.func105,Tryz.ntmps105
 go_upto_region 7 with (go_at_call 124;refine HC.o.mono ?_;rintro e w2 ⟨⟨iv,rfl,hit⟩,Y0⟩;obtain ⟨ia,ic,Ak⟩:=YI.form hit;subst Ak;have Gd:=Zh hit;have X6:=Zh Y0;clear hit Y0)
 clear HC
 by_cases R9:er=0
 ·subst R9
  rw [Z4 Zi] at HX
  go_wp2_with fail
  go_ret2
  exact ⟨⟨_,by rw [HX.o];rfl,by rw [HX.o];exact ⟨_,rfl,Gd.o⟩⟩,X6.o⟩
 ·have bl:(er != 0)=true:=by rw [R6];exact R9
  have bl2:(er == 0)=false:=by rw [WQ];exact R9
  rw [ZQ R9] at HX
  go_wp2_with fail
  go_ret2
  exact ⟨⟨.nilIface,by rw [HX.o];rfl,by rw [HX.o];rfl⟩,X6.o⟩
end Go.Proofs.By
