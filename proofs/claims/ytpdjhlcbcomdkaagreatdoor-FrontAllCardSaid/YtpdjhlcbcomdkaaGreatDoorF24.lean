/- Part of a proof. -/
import Derived.Test.YtpdjhlcbcomdkaaGreatDoorF13
import Derived.Test.YtpdjhlcbcomdkaaGreatDoorF23
set_option linter.unusedVariables false
set_option linter.unusedSimpArgs false
set_option maxRecDepth 100000
set_option maxHeartbeats 16000000
open Go Go.Q Go.Qr
namespace Go.Proofs.By
open Go.RowKit Go.Proofs.Heap
theorem Va {P:Program} {ops:Array Oper} {o:Oper} {a:Act} {w:World} {K:Act→World→Prop} {Q:Exit→Act→World→Prop} {E':Prop} (Ld:o.guard=none) {t e:TypeId} {size bytes:Nat} (E:Elem P t e size bytes) (x:Operand) (ho:o.op = .buildSlice t 1 #[(0,x)])
  (cells:Array Value) (hx:a.eval x = .agg cells) (hs:cells.size=size) (VV:size≤1000)
  (h:K (a.put o.dst (.slice (some ⟨w,0,none⟩) 1 1)) (w.alloc (.cells cells e))):if Region.wanted o (yielded ops a.tmps)=true then Oper.wp P o a w K Q else E':=by
 have hw:Region.wanted o (yielded ops a.tmps)=true:=by simp [Region.wanted,Ld]
 rw [ZX hw]
 obtain ⟨z,UQ,oZ⟩:=E.info
 obtain ⟨i,hi,hz,Rx,oC⟩:=info_parts UQ
 have Rk:=E.pos
 refine Go.wp_buildSlice t e 1 #[(0,x)] ho cells i z E.ht hi hz (by rw [Rx];omega) (by rw [Rx];omega) ?_ h
 have hf:=Go.Great.fill_whole (s:=i.size) Zo [.agg cells] ((Array.range (1*i.size)).map (z.cells[· % z.cells.size]!)) (fun v hv=>by rw [I9] at hv;subst hv;show cells.size=_;omega) Zi
 have e1:([Value.agg cells].flatMap fun v=>v.cells.toList).toArray=cells:=by simp [Value.cells]
 rw [e1] at hf
 simpa [hx] using hf
theorem Js:Elem Tryz.prog 82 173 10 120:=⟨Tryz.underlying82,⟨.agg Y9,by kernel_rfl,rfl⟩,by decide⟩
def comb (L:List R6) (x:List R6 × Int):List R6 × Int:=if x.2≠0 then ([],x.2) else (L++x.1,0)
theorem A_ (L:List R6) (k:Nat) {r:List UInt8} (h:(Ze r).2≠0):comb L (YT (k+1) r)=([],(Ze r).2):=by
 have e:YT (k+1) r=([],(Ze r).2):=by unfold YT;rw [ZX h]
 rw [e];unfold comb;rw [ZX h]
theorem E9 (L:List R6) (k:Nat) {r:List UInt8} (h:(Ze r).2=0) (hl:r.length-(Ze r).1.2=0):comb L (YT (k+1) r)=(L++[(Ze r).1.1],0):=by
 have e:YT (k+1) r=([(Ze r).1.1],0):=by unfold YT;rw [Z6 (by simp [h]),ZX hl]
 rw [e];rfl
theorem E_ (L:List R6) (k:Nat) {r:List UInt8} (h:(Ze r).2=0) (hl:¬r.length-(Ze r).1.2=0):comb L (YT (k+1) r)=comb (L++[(Ze r).1.1]) (YT k (r.drop (Ze r).1.2)):=by
 have e:YT (k+1) r=(if (YT k (r.drop (Ze r).1.2)).2≠0 then ([],(YT k (r.drop (Ze r).1.2)).2) else ((Ze r).1.1 :: (YT k (r.drop (Ze r).1.2)).1,0)):=by
  conv=>lhs;unfold YT
  rw [Z6 (by simp [h]),Z6 hl]
 rw [e]
 generalize YT k (r.drop (Ze r).1.2)=y
 by_cases h2:y.2≠0
 ·rw [ZX h2]
  unfold comb
  rw [ZX h2,ZX h2]
 ·rw [Z6 h2]
  unfold comb
  rw [Z6 h2,pL]
  exact Z6 Zi
theorem Kl {k:Nat} {b:List UInt8} (h:(YT k b).2≠0):YT k b=([],(YT k b).2):=by
 cases k with
 | zero=>rfl
 | succ k=>
  unfold YT at h ⊢
  by_cases h1:(Ze b).2≠0
  ·rw [ZX h1]
  rw [Z6 h1] at h ⊢
  by_cases h2:b.length-(Ze b).1.2=0
  ·rw [ZX h2] at h;exact absurd rfl h
  rw [Z6 h2] at h ⊢
  dsimp only at h ⊢
  by_cases h3:(YT k (b.drop (Ze b).1.2)).2≠0
  ·rw [ZX h3]
  ·rw [Z6 h3] at h;exact absurd rfl h
theorem Ij {b:List UInt8} (h:(Ze b).2=0):(Ze b).1.2≤b.length:=by
 unfold Ze at h ⊢
 by_cases h1:b.length<4
 ·rw [ZX h1] at h;cases h
 rw [Z6 h1] at h ⊢
 by_cases h2:at8 b 0 / 32≠4
 ·rw [ZX h2] at h;cases h
 rw [Z6 h2] at h ⊢
 by_cases h3:(XR b).2=false
 ·rw [ZX h3] at h;cases h
 rw [Z6 h3] at h ⊢
 by_cases h4:(XR b).1=200∨(XR b).1=201
 ·rw [ZX h4] at h ⊢
  unfold Yc at h ⊢
  by_cases h5:(right b).2≠0
  ·rw [ZX h5] at h;exact absurd h h5
  ·rw [Z6 h5]
   have:=IJ (b:=b) Zo
   show (right b).1≤_
   rw [this.2.2.2.1]
   exact this.2.2.2.2
 rw [Z6 h4] at h ⊢
 dsimp only at h ⊢
 by_cases h5:(X3 b (XR b).1).2=false
 ·rw [ZX h5] at h;cases h
 rw [Z6 h5] at h ⊢
 by_cases h6:b.length<(X3 b (XR b).1).1
 ·rw [ZX h6] at h;cases h
 rw [Z6 h6]
 show (X3 b (XR b).1).1≤_
 omega
def sU:Value→Nat
 | .slice _ n _=>n
 | _=>0
theorem WV {w w':World} {row:Option Nat} (hg:w.grownBy w' row):Fr w (fun k=>row=some k) w w':=⟨hg.os,hg.tape,hg.output,hg.size,fun k hk hs=>hg.block k hk (fun e=>hs e.symm)⟩
theorem X4 {base:Nat} {e e2:TypeId} {size:Nat} {v:Value} {n:Nat} {xs:List Value} {w:World} (h:w.ownsRow base e size v n xs) (Xh:e2≠e):∀ k c fr,v.ownBlock=some k→w.heap[k]?≠some (.cells c e2 fr):=by
 intro k c fr hk hc
 obtain ⟨_,h⟩:=h
 rcases h with ⟨rfl,_⟩|⟨g,cap,cur,rfl,hg,hh,_⟩
 ·cases hk
 ·have hk:some g=some k:=hk
  cases hk
  rw [hh] at hc
  injection hc with hc
  injection hc with _ hc
  exact Xh hc.symm
theorem UY.lF {w w':World} {x:Sz} {S:Nat→Prop} (h:UY w x) (hf:Fr w S w w') (h1:∀ k c fr,S k→w.heap[k]?≠some (.cells c 228 fr)) (h2:∀ k c fr,S k→w.heap[k]?≠some (.cells c 66 fr)) (h3:∀ k c fr,S k→w.heap[k]?≠some (.cells c 226 fr)):UY w' x:=
 ⟨Row.fr h.b hf (ZB _) h1,Row.fr h.g hf (ZB _) h2,Row.fr h.p hf (ZB _) h3⟩
theorem Ch (v:Value) (b:List UInt8) (w:World) (hv:Yn w v b) :
  Calls Tryz.prog 124 #[v] w fun e w'=>(∃ a,e = .returned (.tuple #[a,.int .i64 (Yy b).2])∧YV w' a (Yy b).1)∧Below w w w':=by
 have HX:Hid (Yy b=if 512<b.length then ([],5) else YT 8 b):=rfl
 have HV:Hid (∀ w',Below w w w'→Yn w' v b):=fun w' h=>hv.below h
 have hlen:=hv.len
 obtain ⟨va,c,rfl,TH,-⟩:=id hv
 clear hv TH
 generalize Yy b=X at *
 by_cases h1:512<b.length
 ·rw [ZX h1] at HX
  clear HV
  go_enter Tryz.func124,Tryz.ntmps124
  go_wp2_with fail
  go_ret2
  exact ⟨⟨.slice none 0 0,by rw [HX.o];rfl,by rw [HX.o];exact YV.nil _⟩,YG _ _⟩
 rw [Z6 h1] at HX
 have fT:Hid (YT 8 b=comb [] (YT (8-0) b)):=by
  show _=_
  unfold comb
  by_cases h:(YT 8 b).2≠0
  ·rw [ZX h]
   obtain ⟨y,hy⟩:∃ y,y=YT 8 b:=⟨_,rfl⟩
   exact Kl h
  ·rw [Z6 h]
   have h:(YT 8 b).2=0:=by omega
   show YT 8 b=([]++(YT 8 b).1,0)
   rw [KF,←h]
 go_enter Tryz.func124,Tryz.ntmps124
 go_upto_region 4 with fail
 go_loopw [0,4] (fun s0 s4 w'=>∃ (j:Nat) (r:List UInt8) (ra:Option Addr) (rc:Nat) (L:List Sz),j≤8∧L.length=j∧r.length≤512∧s0 = .slice ra r.length rc∧sU s4=j∧Below w w w'∧w'.ownsRow w 173 10 s4 j (L.flatMap Y6)∧(∀ x∈L,UY w' x)∧Hid (∀ w'',Below w w w''→Yn w'' (.slice ra r.length rc) r)∧Hid (YT 8 b=comb (L.map (·.i)) (YT (8-j) r))) (fun _ s4 _=>8-sU s4)
 case atStart=>exact ⟨0,b,va,c,[],TS _,rfl,Zo,rfl,rfl,YG _ _,Us _ _ _ _,fun _ h=>by (exact absurd h Zi),HV.o,fT.o⟩
 case round=>
  clear fT HV
  obtain ⟨j,r,ra,rc,L,hj,bS,hr,rfl,-,SD,YO,OQ,HR,HG⟩:=hrel
  obtain ⟨oa,oc,rfl,-,-⟩:=Row.ZV YO
  have Rf:=Zh SD
  have Yu:=Zh YO
  have Hf:=Zh OQ
  have Vr:=SD.size
  have HLJ:=Zh bS
  clear SD YO OQ bS
  by_cases h8:j=8
  ·subst h8
   go_wp2_with fail
   go_ret2
   exact ⟨⟨.slice none 0 0,by rw [HX.o,HG.o];rfl,by rw [HX.o,HG.o];exact YV.nil _⟩,Rf.o⟩
  have e8:((j:Int) == 8)=false:=by rw [WT];omega
  obtain ⟨q,hq⟩:∃ q,8-j=q+1:=⟨7-j,Zo⟩
  rw [hq] at HG
  have CI:=Zh (sO _ r wr (HR.o _ Rf.o) hr)
  have mi:r.length≤rc:=by
   have h:=HR.o _ Rf.o
   obtain ⟨a1,c1,h1,h2,_⟩:=h
   injection h1 with _ _ h1
   omega
  have mO:=Zh (Ij (b:=r))
  have HE:=Zh (A_ (L.map (·.i)) q (r:=r))
  have Lb:=Zh (E9 (L.map (·.i)) q (r:=r))
  have HM:=Zh (E_ (L.map (·.i)) q (r:=r))
  generalize Ze r=Y at *
  obtain ⟨⟨i,n⟩,er⟩:=Y
  dsimp only at CI mO HE Lb HM
  go_upto_region 7 with (go_at_call 151;refine CI.o.mono ?_;rintro e w2 ⟨⟨a,rfl,hit⟩,Y0⟩;obtain ⟨xa,xc,ya,yc,za,zc,ha,Nh⟩:=LW hit;subst ha;have Ap:=Zh Nh;have XA:=Zh Y0;clear hit Nh Y0)
  clear CI
  by_cases SE:er=0
  ·subst SE
   have hnr:n≤r.length:=mO.o DJ
   obtain ⟨a2,U4,-,Z7⟩:=Tt (P:=Tryz.prog) Wn ra r.length rc n hnr mi
   have WS:=Zh Z7
   have Ay:=Z5 w2 (.cells (Jj i xa xc ya yc za zc) 173)
   have Nk:=XA.o.size
   have JH:Hid (Below w w (w2.alloc (.cells (Jj i xa xc ya yc za zc) 173)).drew):=(ZA (Rf.o.trans (XA.o.mono Vr)) (ZB _) _).drew
   have Hd:Hid (Below w w ((w2.alloc (.cells (Jj i xa xc ya yc za zc) 173)).drew.alloc (.cells (Jj i xa xc ya yc za zc) 173))):=ZA (ZA (Rf.o.trans (XA.o.mono Vr)) (ZB _) _).drew (ZB _) _
   have Ea:Below w2 w2 ((w2.alloc (.cells (Jj i xa xc ya yc za zc) 173)).drew.alloc (.cells (Jj i xa xc ya yc za zc) 173)):=ZA (Z' w2 _).drew (ZB _) _
   have OT:=Zh (X9 (X9 Yu.o XA.o) Ea)
   have wX:Hid (∀ x∈L++[⟨i,.slice xa i.blocks.length xc,.slice ya i.gone.length yc,.slice za i.XV.length zc⟩],UY ((w2.alloc (.cells (Jj i xa xc ya yc za zc) 173)).drew.alloc (.cells (Jj i xa xc ya yc za zc) 173)) x):=fun x hx=>by
    rcases De.1 hx with h|h
    ·exact ((Hf.o x h).below XA.o).below Ea
    ·rw [I9] at h;subst h;exact Ap.o.below Ea
   clear Ea Z7
   go_upto_region 9 with fail
   refine QN ?_
   refine wp_region_held_drew (S:=(fun w'=>Below w w w')) Zg ?_ (fun Yb=>?_)
   ·(try dsimp only)
    exact JH.o
   refine YA 0 (h:=YA 4 (h:=YA 5 (h:=YA 6 (h:=?_))))
   refine TR 1 (h:=fun K hK=>?_)
   refine Sk Zr 173 (.tmp 5) Zr w2.heap.size Zr 173 (Jj i xa xc ya yc za zc) (0,0) _ Ay Tryz.underlying173 rfl Zg ?_
   refine hK.out _ _ ?_ (fun XX=>?_)
   ·(try dsimp only)
    first|exact QI.o|exact Hd.o|exact JH.o
   clear hK K
   try simp only [Z3.pt]
   refine TR 2 (h:=fun K hK=>?_)
   refine Va Zr Js (.tmp 24) Zr (Jj i xa xc ya yc za zc) Zr Zr Zd ?_
   refine hK.out _ _ ?_ (fun Wo=>?_)
   ·(try dsimp only)
    first|exact QI.o|exact Hd.o|exact JH.o
   clear hK K
   try simp only [Z3.pt]
   refine TR 3 (h:=fun K hK=>?_)
   refine Zw Zr (.tmp 23) (.tmp 25) 82 Zr w.heap.size Js (.slice oa j oc) j (L.flatMap Y6) Zr OT.o (.slice (some ⟨(w2.alloc (.cells (Jj i xa xc ya yc za zc) 173)).drew.heap.size,0,none⟩) 1 1) 1 (Jj i xa xc ya yc za zc) Zr (UJ (w2.alloc (.cells (Jj i xa xc ya yc za zc) 173)).drew 173 1 (Jj i xa xc ya yc za zc) Zd) rfl (by intro u hu;simp only [KG,List.mem_nil_iff,or_false] at hu;rcases hu with rfl|rfl|rfl|rfl|rfl|rfl|rfl|rfl|rfl|rfl <;> rfl) Zo Zo Hd.o.size ?_
   intro v' w5 HO mM
   have HFG:=Zh (WV mM.o)
   obtain ⟨va',vc',hva',-,-⟩:=Row.ZV HO.o
   subst hva'
   have QI:Hid (Below w w w5):=Hd.o.trans (Fr.below (HFG.o.mono Hd.o.size (fun k hk hs=>absurd (L9 OT.o k hs) Zo)))
   refine hK.out _ _ ?_ (fun Oc=>?_)
   ·(try dsimp only)
    first|exact QI.o|exact Hd.o|exact JH.o
   clear hK K
   try simp only [Z3.pt]
   refine YA 7 (h:=YA 8 (h:=?_))
   refine wpAnyH_done Zg ?_ _
   refine Py ?_
   have kr:Hid (∀ x∈L++[⟨i,.slice xa i.blocks.length xc,.slice ya i.gone.length yc,.slice za i.XV.length zc⟩],UY w5 x):=fun x hx=>(wX.o x hx).lF HFG.o (X4 OT.o Zd) (X4 OT.o Zd) (X4 OT.o Zd)
   have HFL:Hid ((L++[(⟨i,.slice xa i.blocks.length xc,.slice ya i.gone.length yc,.slice za i.XV.length zc⟩:Sz)]).flatMap Y6=L.flatMap Y6++[.int .i64 i.kind,.int .u32 i.X5,.int .u64 i.JA,.int .u32 i.time,.int .u32 i.Xv,.int .u32 i.octets,.slice xa i.blocks.length xc,.slice ya i.gone.length yc,.int .u32 i.Ye,.slice za i.XV.length zc]):=by
    show _=_
    rw [QL]
    rfl
   clear Yb XX Wo Oc wX HFG OT JH Hd Yu Hf Ay
   by_cases hl:r.length-n=0
   ·rw [hl]
    go_wp2_with fail
    go_ret2
    refine ⟨⟨.slice va' (j+1) vc',by rw [HX.o,HG.o,Lb.o DJ hl];rfl,?_⟩,QI.o⟩
    rw [HX.o,HG.o,Lb.o DJ hl]
    refine ⟨L++[⟨i,.slice xa i.blocks.length xc,.slice ya i.gone.length yc,.slice za i.XV.length zc⟩],by rw [ND];rfl,?_,kr.o⟩
    rw [HFL.o,SP,HLJ.o]
    exact Row.ZV HO.o
   ·have bl:(((r.length-n:Nat):Int) == 0)=false:=by rw [WT];omega
    have Bo:(r.drop n).length=r.length-n:=RU
    go_wp2_with fail
    go_roundw
    case rel=>
     refine ⟨j+1,r.drop n,a2,rc-n,L++[⟨i,.slice xa i.blocks.length xc,.slice ya i.gone.length yc,.slice za i.XV.length zc⟩],Zo,by rw [SP,HLJ.o];rfl,Zo,by rw [Bo],rfl,QI.o,by rw [HFL.o];exact HO.o,kr.o,?_,?_⟩
     ·intro w'' h
      have h5:=WS.o w'' (Sr r) (by rw [XI,Nat.mul_one]) (HR.o w'' h)
      rw [Nat.mul_one,Rs] at h5
      show Yf _ _ (r.drop n).length _
      rw [Bo]
      exact h5
     ·show _=_
      rw [HG.o,HM.o DJ hl,ND,show 8-(j+1)=q by omega]
      rfl
    case measure=>show 8-(j+1)<8-j;omega
  ·have bl:(er != 0)=true:=by rw [TF];exact SE
   have bH:(er == 0)=false:=by rw [WT];exact SE
   go_wp2_with fail
   go_ret2
   exact ⟨⟨.slice none 0 0,by rw [HX.o,HG.o,HE.o SE];rfl,by rw [HX.o,HG.o,HE.o SE];exact YV.nil _⟩,ZA (Rf.o.trans (XA.o.mono Vr)) (ZB _) _⟩
theorem Gp (v:Value) (n:Nat) (xs:List Value) (w:World) (hv:Row w 173 v n xs) (hx:xs.length=n*10) (h1:∀ u∈xs,u.oneCell'=true) (hl:n≤1000000) :
  Calls Tryz.prog 157 #[v] w fun e w'=>(∃ v',e = .returned v'∧w'.ownsRow w 173 10 v' n xs)∧Below w w w':=by
 obtain ⟨a,cap,rfl,Tm,OY,OG,MA⟩:=id hv
 have HV:=Zh hv
 have HN:=Zh OG
 have qE:=Zh hx
 have qq:=Zh h1
 clear hv MA Tm OY OG hx h1
 cases a with
 | none=>
  obtain ⟨h1,h2⟩:=HN.o rfl
  have HL:Hid (xs=[]):=DM (by rw [qE.o,h1])
  have he:=fun w=>Lib.run_eql_slice_nil (P:=Tryz.prog) w 82 173 none n cap 0 0 Tryz.underlying82
  have HH1:=Zh h1
  clear h1 h2
  go_enter Tryz.func157,Tryz.ntmps157
  exact nr
 | some a=>
  have he:=fun w=>Lib.run_eql_slice_nil (P:=Tryz.prog) w 82 173 (some a) n cap 0 0 Tryz.underlying82
  clear HN
  go_enter Tryz.func157,Tryz.ntmps157
  go_wp2_with (at_builtin;refine Za rfl (.tmp 5) (.tmp 6) 82 rfl w.heap.size Js _ 0 [] rfl (Tn w 173 10) _ n xs rfl (HV.o.below (Z' _ _)) qE.o qq.o Zo Zo Zi (fun v' w1 HO HG=>?_))
  go_ret
  have hb:=((Fr.refl w.heap.size Lm w).alloc (ZB _) (.cells #[] 173)).grown HG.o Zi (by
   intro k hk
   have hk:some w.heap.size=some k:=hk
   cases hk
   exact ZB _)
  exact ny
theorem Gh (v:Value) (n:Nat) (xs:List Value) (w:World) (hv:Row w 228 v n xs) (hx:xs.length=n*7) (h1:∀ u∈xs,u.oneCell'=true) (hl:n≤1000000) :
  Calls Tryz.prog 158 #[v] w fun e w'=>(∃ v',e = .returned v'∧w'.ownsRow w 228 7 v' n xs)∧Below w w w':=by
 obtain ⟨a,cap,rfl,Tm,OY,OG,MA⟩:=id hv
 have HV:=Zh hv
 have HN:=Zh OG
 have qE:=Zh hx
 have qq:=Zh h1
 clear hv MA Tm OY OG hx h1
 cases a with
 | none=>
  obtain ⟨h1,h2⟩:=HN.o rfl
  have HL:Hid (xs=[]):=DM (by rw [qE.o,h1])
  have he:=fun w=>Lib.run_eql_slice_nil (P:=Tryz.prog) w 170 228 none n cap 0 0 Tryz.underlying170
  have HH1:=Zh h1
  clear h1 h2
  go_enter Tryz.func158,Tryz.ntmps158
  exact nr
 | some a=>
  have he:=fun w=>Lib.run_eql_slice_nil (P:=Tryz.prog) w 170 228 (some a) n cap 0 0 Tryz.underlying170
  clear HN
  go_enter Tryz.func158,Tryz.ntmps158
  go_wp2_with (at_builtin;refine Za rfl (.tmp 5) (.tmp 6) 170 rfl w.heap.size NI _ 0 [] rfl (Tn w 228 7) _ n xs rfl (HV.o.below (Z' _ _)) qE.o qq.o Zo Zo Zi (fun v' w1 HO HG=>?_))
  go_ret
  have hb:=((Fr.refl w.heap.size Lm w).alloc (ZB _) (.cells #[] 228)).grown HG.o Zi (by
   intro k hk
   have hk:some w.heap.size=some k:=hk
   cases hk
   exact ZB _)
  exact ny
theorem Gr (v:Value) (n:Nat) (xs:List Value) (w:World) (hv:Row w 66 v n xs) (hx:xs.length=n*1) (h1:∀ u∈xs,u.oneCell'=true) (hl:n≤1000000) :
  Calls Tryz.prog 112 #[v] w fun e w'=>(∃ v',e = .returned v'∧w'.ownsRow w 66 1 v' n xs)∧Below w w w':=by
 obtain ⟨a,cap,rfl,Tm,OY,OG,MA⟩:=id hv
 have HV:=Zh hv
 have HN:=Zh OG
 have qE:=Zh hx
 have qq:=Zh h1
 clear hv MA Tm OY OG hx h1
 cases a with
 | none=>
  obtain ⟨h1,h2⟩:=HN.o rfl
  have HL:Hid (xs=[]):=DM (by rw [qE.o,h1])
  have he:=fun w=>Lib.run_eql_slice_nil (P:=Tryz.prog) w 29 66 none n cap 0 0 Tryz.underlying29
  have HH1:=Zh h1
  clear h1 h2
  go_enter Tryz.func112,Tryz.ntmps112
  exact nr
 | some a=>
  have he:=fun w=>Lib.run_eql_slice_nil (P:=Tryz.prog) w 29 66 (some a) n cap 0 0 Tryz.underlying29
  clear HN
  go_enter Tryz.func112,Tryz.ntmps112
  go_wp2_with (at_builtin;refine Za rfl (.tmp 5) (.tmp 6) 29 rfl w.heap.size V4 _ 0 [] rfl (Tn w 66 1) _ n xs rfl (HV.o.below (Z' _ _)) qE.o qq.o Zo Zo Zi (fun v' w1 HO HG=>?_))
  go_ret
  have hb:=((Fr.refl w.heap.size Lm w).alloc (ZB _) (.cells #[] 66)).grown HG.o Zi (by
   intro k hk
   have hk:some w.heap.size=some k:=hk
   cases hk
   exact ZB _)
  exact ny
theorem Gq (v:Value) (n:Nat) (xs:List Value) (w:World) (hv:Row w 226 v n xs) (hx:xs.length=n*2) (h1:∀ u∈xs,u.oneCell'=true) (hl:n≤1000000) :
  Calls Tryz.prog 159 #[v] w fun e w'=>(∃ v',e = .returned v'∧w'.ownsRow w 226 2 v' n xs)∧Below w w w':=by
 obtain ⟨a,cap,rfl,Tm,OY,OG,MA⟩:=id hv
 have HV:=Zh hv
 have HN:=Zh OG
 have qE:=Zh hx
 have qq:=Zh h1
 clear hv MA Tm OY OG hx h1
 cases a with
 | none=>
  obtain ⟨h1,h2⟩:=HN.o rfl
  have HL:Hid (xs=[]):=DM (by rw [qE.o,h1])
  have he:=fun w=>Lib.run_eql_slice_nil (P:=Tryz.prog) w 171 226 none n cap 0 0 Tryz.underlying171
  have HH1:=Zh h1
  clear h1 h2
  go_enter Tryz.func159,Tryz.ntmps159
  exact nr
 | some a=>
  have he:=fun w=>Lib.run_eql_slice_nil (P:=Tryz.prog) w 171 226 (some a) n cap 0 0 Tryz.underlying171
  clear HN
  go_enter Tryz.func159,Tryz.ntmps159
  go_wp2_with (at_builtin;refine Za rfl (.tmp 5) (.tmp 6) 171 rfl w.heap.size LA _ 0 [] rfl (Tn w 226 2) _ n xs rfl (HV.o.below (Z' _ _)) qE.o qq.o Zo Zo Zi (fun v' w1 HO HG=>?_))
  go_ret
  have hb:=((Fr.refl w.heap.size Lm w).alloc (ZB _) (.cells #[] 226)).grown HG.o Zi (by
   intro k hk
   have hk:some w.heap.size=some k:=hk
   cases hk
   exact ZB _)
  exact ny
end Go.Proofs.By
namespace Go.Proofs.By
open Go.RowKit Go.Proofs.Heap
theorem EK (l:List Int):(Zb l).length=l.length:=UM _
theorem K_ (l:List Int):∀ u∈Zb l,u.oneCell'=true:=by
 intro u hu
 obtain ⟨x,_,rfl⟩:=yG.1 hu
 rfl
theorem Ix {w:World} {base:Nat} {e:TypeId} {size:Nat} {v:Value} {n:Nat} {xs:List Value} (h:w.ownsRow base e size v n xs) (hn:0<n):∃ g cap cur,v = .slice (some ⟨g,0,none⟩) n cap∧base≤g∧w.heap[g]?=some (.cells cur e):=by
 obtain ⟨_,h⟩:=h
 rcases h with ⟨_,h⟩|⟨g,cap,cur,hv,hg,hh,h1,h2,h3,h4⟩
 ·omega
 ·exact ⟨g,cap,cur,hv,hg,hh⟩
theorem NV {w:World} {base:Nat} {e:TypeId} {size:Nat} {n:Nat} {xs:List Value} {g cap:Nat} (h:w.ownsRow base e size (.slice (some ⟨g,0,none⟩) n cap) n xs) (hn:0<n) (i:Nat) (u:Value):(w.setCell ⟨g,i,none⟩ u).ownsRow base e size (.slice (some ⟨g,0,none⟩) n cap) n (xs.set i u):=by
 exact br
theorem BK (u:Value):∀ (Q:List Sz) (k:Nat) (hk:k<Q.length),(Q.flatMap Y6).set (k*10+6) u=(Q.set k {Q[k] with bv:=u}).flatMap Y6
 | [],k,hk=>by simp at hk
 | x :: Q,0,_=>by simp [Y6]
 | x :: Q,k+1,hk=>by
  have ih:=BK u Q k (by simpa using hk)
  rw [List.flatMap_cons,List.set_append_right _ _ (by show 10≤_;omega),List.set_cons_succ,List.flatMap_cons]
  have:(k+1)*10+6-(Y6 x).length=k*10+6:=by show _-10=_;omega
  rw [this,ih]
  rfl
theorem BM (u:Value):∀ (Q:List Sz) (k:Nat) (hk:k<Q.length),(Q.flatMap Y6).set (k*10+7) u=(Q.set k {Q[k] with gv:=u}).flatMap Y6
 | [],k,hk=>by simp at hk
 | x :: Q,0,_=>by simp [Y6]
 | x :: Q,k+1,hk=>by
  have ih:=BM u Q k (by simpa using hk)
  rw [List.flatMap_cons,List.set_append_right _ _ (by show 10≤_;omega),List.set_cons_succ,List.flatMap_cons]
  have:(k+1)*10+7-(Y6 x).length=k*10+7:=by show _-10=_;omega
  rw [this,ih]
  rfl
theorem BN (u:Value):∀ (Q:List Sz) (k:Nat) (hk:k<Q.length),(Q.flatMap Y6).set (k*10+9) u=(Q.set k {Q[k] with pv:=u}).flatMap Y6
 | [],k,hk=>by simp at hk
 | x :: Q,0,_=>by simp [Y6]
 | x :: Q,k+1,hk=>by
  have ih:=BN u Q k (by simpa using hk)
  rw [List.flatMap_cons,List.set_append_right _ _ (by show 10≤_;omega),List.set_cons_succ,List.flatMap_cons]
  have:(k+1)*10+9-(Y6 x).length=k*10+9:=by show _-10=_;omega
  rw [this,ih]
  rfl
theorem o5 (Q:List Sz) (k:Nat) (hk:k<Q.length) (b g p:Value):(((Q.flatMap Y6).set (k*10+6) b).set (k*10+7) g).set (k*10+9) p=(Q.set k ⟨Q[k].i,b,g,p⟩).flatMap Y6:=by
 rw [BK b Q k hk,BM g _ k (by rw [List.length_set];exact hk),BN p _ k (by rw [List.length_set,List.length_set];exact hk)]
 simp [List.set_set]
theorem zl {w:World} {a:Option Addr} {n c:Nat} {l:List Sz} (h:Row w 173 (.slice a n c) n (l.flatMap Y6)) (hl:0<l.length):∃ g off,a=some ⟨g,off,none⟩∧∀ (i:Nat) (x:Sz),l[i]?=some x→∀ j,j<10→w.cell? ⟨g,off+i*10+j,none⟩=(Y6 x)[j]?:=by
 have GF:=XZ Y6 10 (fun _=>rfl) l
 obtain ⟨g,off,cap,h1,h2,h3,h4,h5⟩:=Row.open h (by rw [GF];omega)
 injection h1 with e1 _ _
 refine ⟨g,off,e1,fun i x hx j hj=>?_⟩
 have hi:i<l.length:=(List.getElem?_eq_some_iff.1 hx).1
 rw [Nat.add_assoc,h5 (i*10+j) (by rw [GF];omega)]
 exact NJ Y6 10 (fun _=>rfl) l i j x hx hj
theorem UY.setAt {w:World} {x:Sz} (h:UY w x) {g:Nat} {c:Array Value} {f:Nat × Nat} (hg:w.heap[g]?=some (.cells c 173 f)) (o:Nat) (u:Value):UY (w.setCell ⟨g,o,none⟩ u) x:=by
 have hf:Fr w (· = g) w (w.setCell ⟨g,o,none⟩ u):=(Fr.refl _ _ _).setAt _ _
 have Xh:∀ e,173≠e→∀ k c fr,k=g→w.heap[k]?≠some (.cells c e fr):=by
  intro e he k c fr hk hc
  rw [hk,hg] at hc
  injection hc with hc
  injection hc with _ hc
  exact he hc
 exact h.lF hf (Xh _ Zd) (Xh _ Zd) (Xh _ Zd)
theorem sP {x:Sz} (h1:∃ a n c,x.bv = .slice a n c) (h2:∃ a n c,x.gv = .slice a n c) (h3:∃ a n c,x.pv = .slice a n c):∀ u∈Y6 x,u.oneCell'=true:=by
 obtain ⟨i,bv,gv,pv⟩:=x
 obtain ⟨_,_,_,h1⟩:=h1
 obtain ⟨_,_,_,h2⟩:=h2
 obtain ⟨_,_,_,h3⟩:=h3
 dsimp only at h1 h2 h3
 subst h1;subst h2;subst h3
 intro u hu
 simp only [Y6,KG,List.mem_nil_iff,or_false] at hu
 rcases hu with rfl|rfl|rfl|rfl|rfl|rfl|rfl|rfl|rfl|rfl <;> rfl
theorem TV {α:Type} {f:α→List Value} {l:List α} (h:∀ x∈l,∀ u∈f x,u.oneCell'=true):∀ u∈l.flatMap f,u.oneCell'=true:=by
 intro u hu
 obtain ⟨x,hx,hu⟩:=List.mem_flatMap.1 hu
 exact h x hx u hu
theorem DV (x:uB):∀ u∈XC x,u.oneCell'=true:=by
 intro u hu
 simp only [XC,KG,List.mem_nil_iff,or_false] at hu
 rcases hu with rfl|rfl|rfl|rfl|rfl|rfl|rfl <;> rfl
theorem BZ (x:Int × Int):∀ u∈WQ x,u.oneCell'=true:=by
 intro u hu
 simp only [WQ,KG,List.mem_nil_iff,or_false] at hu
 rcases hu with rfl|rfl <;> rfl
theorem DF (v:Value) (l:List R6) (w:World) (hv:YV w v l) (VU:∀ i∈l,TP i) (hl:l.length≤1000) :
  Calls Tryz.prog 129 #[v] w fun e w'=>(∃ v',e = .returned v'∧YV w' v' l)∧Below w w w':=by
 obtain ⟨L,rfl,Z7,OQ⟩:=hv
 rw [UM] at hl
 have OB:Hid (∀ Q:List Sz,Q.map (·.i)=L.map (·.i)→∀ x∈Q,TP x.i):=fun Q hQ x hx=>VU x.i (by rw [←hQ];exact yG.2 ⟨x,hx,rfl⟩)
 have CC:=Zh (Gp v L.length (L.flatMap Y6) w Z7 (XZ Y6 10 (fun _=>rfl) L) (TV fun x hx=>by
  obtain ⟨_,_,h1⟩:=Row.form (OQ x hx).b
  obtain ⟨_,_,h2⟩:=Row.form (OQ x hx).g
  obtain ⟨_,_,h3⟩:=Row.form (OQ x hx).p
  exact sP ⟨_,_,_,h1⟩ ⟨_,_,_,h2⟩ ⟨_,_,_,h3⟩) Zo)
 have Hf:=Zh OQ
 clear Z7 OQ VU
 go_enter Tryz.func129,Tryz.ntmps129
 go_upto_block 3 with (go_at_call 157;refine CC.o.mono ?_;rintro e w1 ⟨⟨v1,rfl,ho1⟩,Zj⟩;obtain ⟨va,vc,jQ,-⟩:=Row.ZV ho1;subst jQ;have Dy:=Zh ho1;have Wy:=Zh Zj;clear ho1 Zj)
 go_loopw [9] (fun s9 w'=>∃ (j:Nat) (Q:List Sz),j≤L.length∧s9 = .int .i64 (j:Int)∧Q.map (·.i)=L.map (·.i)∧w'.ownsRow w 173 10 (.slice va L.length vc) L.length (Q.flatMap Y6)∧(∀ x∈Q,UY w' x)∧Below w w w') (fun s9 _=>L.length-(intOf s9).toNat)
 case atStart=>exact ⟨0,L,Zo,rfl,rfl,Dy.o,fun x hx=>(Hf.o x hx).below Wy.o,Wy.o⟩
 case round=>
  obtain ⟨j,Q,hj,rfl,hQ,YO,OQ,SD⟩:=hrel
  have hQl:Q.length=L.length:=by have h:=congrArg List.length hQ;rwa [UM,UM] at h
  have HQ:=Zh hQ
  have Rf:=Zh SD
  have Yu:=Zh YO
  have He:=Zh OQ
  have Vr:=SD.size
  clear SD OQ hQ CC Dy Hf Wy
  by_cases Oh:j<L.length
  ·obtain ⟨g,cap,cur,e1,hwg,Jt⟩:=Ix YO Zo
   cases e1
   obtain ⟨g',off',e2,UO⟩:=zl (Row.ZV YO) Zo
   cases e2
   have cN:j<Q.length:=by omega
   have UO:=UO j Q[j] (VQ cN)
   have Nh:=He.o Q[j] (Pw cN)
   have VU:=OB.o Q HQ.o Q[j] (Pw cN)
   have HQJ:Hid (∀ b g p,(((Q.flatMap Y6).set (j*10+6) b).set (j*10+7) g).set (j*10+9) p=(Q.set j ⟨Q[j].i,b,g,p⟩).flatMap Y6):=fun b g p=>o5 Q j cN b g p
   have HMAP:Hid (∀ b g p,(Q.set j ⟨Q[j].i,b,g,p⟩).map (·.i)=Q.map (·.i)):=fun b g p=>by
    rw [List.map_set]
    apply List.ext_getElem
    ·rw [List.length_set]
    ·intro m h1 h2
     rw [List.getElem_set]
     split
     ·rename_i h;subst h;simp
     ·rfl
   clear YO
   generalize hxq:Q[j]=x at *
   have HQX:Hid (Q[j]?=some x):=by show _=_;rw [VQ cN,hxq]
   clear hxq
   obtain ⟨i,bv,gv,pv⟩:=x
   obtain ⟨ba,bc,rW⟩:=Row.form Nh.b
   obtain ⟨ga,gc,yT⟩:=Row.form Nh.g
   obtain ⟨pa,pc,NR⟩:=Row.form Nh.p
   dsimp only at rW yT NR VU HQJ HMAP
   subst rW;subst yT;subst NR
   have c0:=UO 0 Zo
   have c1:=UO 1 Zo
   have c2:=UO 2 Zo
   have c3:=UO 3 Zo
   have c4:=UO 4 Zo
   have c5:=UO 5 Zo
   have c6:=UO 6 Zo
   have c7:=UO 7 Zo
   have c8:=UO 8 Zo
   have c9:=UO 9 Zo
   simp only [Y6,R8,RT,OD,Nat.add_zero] at c0 c1 c2 c3 c4 c5 c6 c7 c8 c9
   have fk:(j:Int)<(L.length:Int):=Gs.2 Oh
   have Fq:g<wr.heap.size:=ZQ Jt
   have hz:=Z5 wr (.cells Y9 173)
   have OY:=setRow_heap _ _ _ (Jj i ba bc ga gc pa pc) _ _ hz
   have XA:Hid (Below wr wr ((wr.alloc (.cells Y9 173)).setRow wr.heap.size (Jj i ba bc ga gc pa pc))):=Z0 (Z' wr _) (ZB _) _
   have Ap:=Zh Nh
   have hob:=VU.b
   have hog:=VU.g
   have df:=VU.p
   clear UO Nh VU
   go_upto_region 5 with (with_reducible refine ZY 173 (.tmp 4) (.tmp 13) rfl ?_;refine ZW rfl 173 (.tmp 4) (.tmp 13) rfl rfl wr.heap.size (Jj i ba bc ga gc pa pc) rfl rfl 173 Y9 hz Zg Zg Zg ?_)
   clear hz c0 c1 c2 c3 c4 c5 c6 c7 c8 c9
   generalize ((wr.alloc (.cells Y9 173)).setRow wr.heap.size (Jj i ba bc ga gc pa pc))=w2 at *
   have HCB:Hid (∀ w',Below w2 w2 w'→Calls Tryz.prog 158 #[.slice ba i.blocks.length bc] w' fun e w''=>(∃ v',e = .returned v'∧w''.ownsRow w' 228 7 v' i.blocks.length (i.blocks.flatMap XC))∧Below w' w' w''):=fun w' h=>Gh _ _ _ w' (Row.below (Row.below Ap.o.b XA.o) h) (XZ XC 7 (fun _=>rfl) _) (TV fun x _=>DV x) Zo
   have HCU:Hid (∀ w',Below w2 w2 w'→Calls Tryz.prog 112 #[.slice ga i.gone.length gc] w' fun e w''=>(∃ v',e = .returned v'∧w''.ownsRow w' 66 1 v' i.gone.length (Zb i.gone))∧Below w' w' w''):=fun w' h=>Gr _ _ _ w' (Row.below (Row.below Ap.o.g XA.o) h) (by rw [EK];omega) (K_ _) Zo
   have HCP:Hid (∀ w',Below w2 w2 w'→Calls Tryz.prog 159 #[.slice pa i.XV.length pc] w' fun e w''=>(∃ v',e = .returned v'∧w''.ownsRow w' 226 2 v' i.XV.length (i.XV.flatMap WQ))∧Below w' w' w''):=fun w' h=>Gq _ _ _ w' (Row.below (Row.below Ap.o.p XA.o) h) (XZ WQ 2 (fun _=>rfl) _) (TV fun x _=>BZ x) Zo
   have Jw:wr.heap.size<w2.heap.size:=ZQ OY
   have ZC:Hid (∀ w':World,w'.heap[wr.heap.size]?=w2.heap[wr.heap.size]?→w'.cell? ⟨wr,6,none⟩=some (.slice ba i.blocks.length bc)∧w'.cell? ⟨wr,7,none⟩=some (.slice ga i.gone.length gc)∧w'.cell? ⟨wr,9,none⟩=some (.slice pa i.XV.length pc)):=fun w' h=>
    ⟨Zc (h.trans OY) 6 rfl,Zc (h.trans OY) 7 rfl,Zc (h.trans OY) 9 rfl⟩
   refine QN ?_
   refine wp_region_held_drew (S:=(fun w'=>w'.cell? ⟨wr,6,none⟩=some (.slice ba i.blocks.length bc)∧w'.cell? ⟨wr,7,none⟩=some (.slice ga i.gone.length gc)∧w'.cell? ⟨wr,9,none⟩=some (.slice pa i.XV.length pc))) Zg ?_ (fun _=>?_)
   ·(try dsimp only)
    exact ZC.o _ rfl
   refine YA 0 (h:=YA 1 (h:=YA 2 (h:=YA 3 (h:=YA 4 (h:=YA 5 (h:=YA 6 (h:=YA 7 (h:=YA 9 (h:=YA 10 (h:=YA 12 (h:=YA 13 (h:=?_))))))))))))
   refine TR 8 (h:=fun K hK=>?_)
   go_simp
   refine (HCB.o _ (YG _ _).drew).mono ?_
   rintro e w3 ⟨⟨bv,rfl,ho⟩,hb⟩
   obtain ⟨u9,u_,oV,-⟩:=Row.ZV ho
   subst oV
   have HO3:=Zh (Row.ZV ho)
   have T_:Hid (Below w2 w2 w3):=(YG w2.heap.size w2).drew.trans hb
   have MF:Hid (w3.heap[wr.heap.size]?=w2.heap[wr.heap.size]?):=T_.o.block _ Jw
   clear ho hb
   go_wp2_with fail
   refine hK.out _ _ ?_ (fun _=>?_)
   ·exact uU
   clear hK K
   try simp only [Z3.pt]
   refine TR 11 (h:=fun K hK=>?_)
   go_simp
   refine (HCU.o _ T_.o).mono ?_
   rintro e w4 ⟨⟨gv,rfl,ho⟩,hb⟩
   obtain ⟨nT,nU,oV,-⟩:=Row.ZV ho
   subst oV
   have HO4:=Zh (Row.ZV ho)
   have HB34:Hid (Below w3 w3 w4):=hb
   have Ur:Hid (Below w2 w2 w4):=T_.o.trans (hb.mono T_.o.size)
   have pJ:Hid (w4.heap[wr.heap.size]?=w2.heap[wr.heap.size]?):=Ur.o.block _ Jw
   clear ho hb
   go_wp2_with fail
   refine hK.out _ _ ?_ (fun _=>?_)
   ·exact uU
   clear hK K
   try simp only [Z3.pt]
   refine TR 14 (h:=fun K hK=>?_)
   go_simp
   refine (HCP.o _ Ur.o).mono ?_
   rintro e w5 ⟨⟨pv,rfl,ho⟩,hb⟩
   obtain ⟨pa',px,oV,-⟩:=Row.ZV ho
   subst oV
   have kB:=Zh (Row.ZV ho)
   have HB45:Hid (Below w4 w4 w5):=hb
   have QI:Hid (Below w2 w2 w5):=Ur.o.trans (hb.mono Ur.o.size)
   have qD:Hid (w5.heap[wr.heap.size]?=w2.heap[wr.heap.size]?):=QI.o.block _ Jw
   have pZ:Hid (Below wr wr w5):=XA.o.trans (QI.o.mono XA.o.size)
   have Bt:w5.heap[g]?=some (.cells cur 173):=(pZ.o.block g Fq).trans Jt
   have h5o:=X9 Yu.o pZ.o
   obtain ⟨g5,off5,e3,vv⟩:=zl (Row.ZV h5o) Zo
   cases e3
   have vv:=vv j _ HQX.o
   have k6:=vv 6 Zo
   have k7:=vv 7 Zo
   have k9:=vv 9 Zo
   simp only [Y6,R8,RT,OD] at k6 k7 k9
   have f6:w5.frozen? ⟨g,j*10+6,none⟩=false:=ZI Bt _
   have f7:w5.frozen? ⟨g,j*10+7,none⟩=false:=ZI Bt _
   have f9:w5.frozen? ⟨g,j*10+9,none⟩=false:=ZI Bt _
   have hxg:wr.heap.size≠g:=by omega
   clear ho hb vv
   go_wp2_with fail
   refine hK.out _ _ ?_ (fun _=>?_)
   ·exact uU
   clear hK K
   try simp only [Z3.pt]
   refine YA 15 (h:=YA 16 (h:=?_))
   refine TR 17 (h:=fun K hK=>?_)
   go_simp
   have gH:Hid ((w5.setCell ⟨g,j*10+6,none⟩ (.slice u9 i.blocks.length u_)).heap[wr.heap.size]?=w2.heap[wr.heap.size]?):=(Hk w5 ⟨g,j*10+6,none⟩ _ wr.heap.size hxg).trans qD.o
   have k7':(w5.setCell ⟨g,j*10+6,none⟩ (.slice u9 i.blocks.length u_)).cell? ⟨g,j*10+7,none⟩=some (.slice ga i.gone.length gc):=(World.cell?_setCell_other _ _ _ _ Zi).trans k7
   have f7':(w5.setCell ⟨g,j*10+6,none⟩ (.slice u9 i.blocks.length u_)).frozen? ⟨g,j*10+7,none⟩=false:=ZI (WA Bt _ _) _
   refine hK.out _ _ ?_ (fun _=>?_)
   ·exact uU
   clear hK K
   try simp only [Z3.pt]
   refine YA 18 (h:=YA 19 (h:=?_))
   refine TR 20 (h:=fun K hK=>?_)
   go_simp
   have HX7:Hid (((w5.setCell ⟨g,j*10+6,none⟩ (.slice u9 i.blocks.length u_)).setCell ⟨g,j*10+7,none⟩ (.slice nT i.gone.length nU)).heap[wr.heap.size]?=w2.heap[wr.heap.size]?):=(Hk (w5.setCell ⟨g,j*10+6,none⟩ (.slice u9 i.blocks.length u_)) ⟨g,j*10+7,none⟩ _ wr.heap.size hxg).trans gH.o
   have k9':((w5.setCell ⟨g,j*10+6,none⟩ (.slice u9 i.blocks.length u_)).setCell ⟨g,j*10+7,none⟩ (.slice nT i.gone.length nU)).cell? ⟨g,j*10+9,none⟩=some (.slice pa i.XV.length pc):=(World.cell?_setCell_other _ _ _ _ Zi).trans ((World.cell?_setCell_other _ _ _ _ Zi).trans k9)
   have f9':((w5.setCell ⟨g,j*10+6,none⟩ (.slice u9 i.blocks.length u_)).setCell ⟨g,j*10+7,none⟩ (.slice nT i.gone.length nU)).frozen? ⟨g,j*10+9,none⟩=false:=ZI (WA (WA Bt _ _) _ _) _
   refine hK.out _ _ ?_ (fun _=>?_)
   ·exact uU
   clear hK K
   try simp only [Z3.pt]
   refine YA 21 (h:=YA 22 (h:=?_))
   refine TR 23 (h:=fun K hK=>?_)
   go_simp
   have HX8:Hid ((((w5.setCell ⟨g,j*10+6,none⟩ (.slice u9 i.blocks.length u_)).setCell ⟨g,j*10+7,none⟩ (.slice nT i.gone.length nU)).setCell ⟨g,j*10+9,none⟩ (.slice pa' i.XV.length px)).heap[wr.heap.size]?=w2.heap[wr.heap.size]?):=(Hk ((w5.setCell ⟨g,j*10+6,none⟩ (.slice u9 i.blocks.length u_)).setCell ⟨g,j*10+7,none⟩ (.slice nT i.gone.length nU)) ⟨g,j*10+9,none⟩ _ wr.heap.size hxg).trans HX7.o
   refine hK.out _ _ ?_ (fun _=>?_)
   ·exact uU
   clear hK K
   try simp only [Z3.pt]
   refine wpAnyH_done Zg ?_ _
   refine Py ?_
   go_wp2_with fail
   go_roundw
   case rel=>
    have e0:Below w w w5:=Rf.o.trans (pZ.o.mono Vr)
    have e1:Below w w (((w5.setCell ⟨g,j*10+6,none⟩ (.slice u9 i.blocks.length u_)).setCell ⟨g,j*10+7,none⟩ (.slice nT i.gone.length nU)).setCell ⟨g,j*10+9,none⟩ (.slice pa' i.XV.length px)):=((((Fr.Z9 Lm e0).setCell (p:=⟨g,j*10+6,none⟩) (Wc hwg) _).setCell (p:=⟨g,j*10+7,none⟩) (Wc hwg) _).setCell (p:=⟨g,j*10+9,none⟩) (Wc hwg) _).below
    have e2:=NV (NV (NV h5o Zo (j*10+6) (.slice u9 i.blocks.length u_)) Zo (j*10+7) (.slice nT i.gone.length nU)) Zo (j*10+9) (.slice pa' i.XV.length px)
    rw [HQJ.o] at e2
    have g6:=WA Bt (j*10+6) (.slice u9 i.blocks.length u_)
    have g7:=WA g6 (j*10+7) (.slice nT i.gone.length nU)
    refine ⟨j+1,_,Zo,Zn,(HMAP.o _ _ _).trans HQ.o,e2,fun x hx=>?_,e1⟩
    rcases List.mem_or_eq_of_mem_set hx with hx|rfl
    ·exact ((((He.o x hx).below pZ.o).setAt Bt _ _).setAt g6 _ _).setAt g7 _ _
    ·have hn:UY w5 ⟨i,(.slice u9 i.blocks.length u_),(.slice nT i.gone.length nU),(.slice pa' i.XV.length px)⟩:=⟨Row.below (Row.below HO3.o HB34.o) HB45.o,Row.below HO4.o HB45.o,kB.o⟩
     exact ((hn.setAt Bt _ _).setAt g6 _ _).setAt g7 _ _
   case measure=>simp [intOf];omega
  ·have vB:j=L.length:=by omega
   have HMQ:Hid (YV wr (.slice va L.length vc) (L.map (·.i))):=⟨Q,HQ.o.symm,by rw [hQl];exact Row.ZV Yu.o,He.o⟩
   clear YO
   go_wp2
   go_ret
   exact ⟨⟨_,rfl,HMQ.o⟩,Rf.o⟩
theorem uZ {b:List UInt8} (h:b.length<2):at8 b 1=0:=by
 unfold at8
 rw [Sq,List.getElem?_eq_none Zo]
 rfl
theorem zT (v:Value) (b:List UInt8) (w:World) (hv:Yn w v b) :
  Calls Tryz.prog 105 #[v] w fun e w'=>(∃ a,e = .returned (.tuple #[a,.int .i64 (X0 b).2])∧yh w' a (X0 b).1)∧Below w w w':=by
 by_cases h3:192≤at8 b 1∧at8 b 1≤223
 rotate_left
 ·exact Mk v b w hv h3
 have hlen:=hv.len
 have h2:¬b.length<2:=fun h=>by rw [uZ h] at h3;omega
 by_cases h1:512<b.length
 ·have HX:Hid (X0 b=(.none,5)):=by show _=_;unfold X0;rw [ZX h1]
  exact h_
 have HX:Hid (X0 b=if (Yy b).2≠0 then (.none,(Yy b).2) else (.X6 (Yy b).1,0)):=by
  show _=_
  conv=>lhs;unfold X0
  rw [Z6 h1,Z6 h2,ZX h3]
 have HC:=Zh (Ch v b w hv)
 obtain ⟨g,off,c,rfl,TH,vF,XS⟩:=SC hv Zo
 have d1:=XS 1 Zo
 clear XS hv TH vF
 have eZ:(1:Int)<(b.length:Int):=by omega
 have bY:1<b.length:=by omega
 generalize X0 b=X at *
 generalize Yy b=Y at *
 obtain ⟨L,er⟩:=Y
 dsimp only at HC HX
 have lZ:=fun (x:Value) (w:World)=>run_makeInterface (P:=Tryz.prog) w 213 x Zg
 obtain ⟨Dk,Ay⟩:=h3
 generalize at8 b 1=kd at *
 have l1:decide ((192:Int)≤(kd:Int))=true:=Ws Zo
 have l2:decide ((kd:Int)≤223)=true:=Ws Zo
 go_enter Tryz.func105,Tryz.ntmps105
 go_upto_region 7 with (go_at_call 124;refine HC.o.mono ?_;rintro e w2 ⟨⟨iv,rfl,hit⟩,Y0⟩;obtain ⟨ia,ic,yV⟩:=YV.form hit;subst yV;have He:=Zh hit;have XA:=Zh Y0;clear hit Y0)
 clear HC
 by_cases SE:er=0
 ·subst SE
  rw [Z6 Zi] at HX
  go_wp2_with fail
  go_ret2
  exact ⟨⟨_,by rw [HX.o];rfl,by rw [HX.o];exact ⟨_,rfl,He.o⟩⟩,XA.o⟩
 ·have bl:(er != 0)=true:=by rw [TF];exact SE
  have bH:(er == 0)=false:=by rw [WT];exact SE
  rw [ZX SE] at HX
  go_wp2_with fail
  go_ret2
  exact ⟨⟨.nilIface,by rw [HX.o];rfl,by rw [HX.o];rfl⟩,XA.o⟩
end Go.Proofs.By
