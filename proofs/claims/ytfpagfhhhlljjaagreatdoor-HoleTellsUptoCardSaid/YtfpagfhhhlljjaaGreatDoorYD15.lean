/- Part 15 of the proof (X12, X13, X14, X15, X19, X20, X21); no condition. -/
import Derived.Test.YtfpagfhhhlljjaaGreatDoorYD14
set_option linter.unusedVariables false
set_option linter.unusedSimpArgs false
set_option maxRecDepth 8000
namespace Go.Proofs.YtfpagfhhhlljjaaGreatDoor.Xe
open Sm Bins Cov Wd Go.RowKit
open Bool renaming not_false→jC,not_true→jU,and_eq_true→jX,false_or→qR,false_and→qK,true_and→qF,true_or→wU,or_false→jQ,or_true→wK
open List renaming map_cons→jD,map_nil→jE,append_nil→jF,getElem?_cons_zero→zB,getElem?_cons_succ→zD,length_map→jH,getElem_mem→jP,drop_eq_getElem_cons→zK,drop_eq_nil_of_le→jV,mem_append→qI,take_succ_eq_append_getElem→zN,contains_cons→jR,contains_nil→jJ,take_zero→qB,length_take→zJ,length_set→qW,take_of_length_le→jW,length_append→qA,mem_map→zL,replicate→jZ,getElem?_eq_getElem→jS,getD_eq_getElem?_getD→zQ,map_map→wF,all_eq_true→zI,getElem_of_mem→qL,getElem?_map→jY
open Nat renaming le_of_ble_eq_true→jI,reduceEqDiff→jB,zero_add→jG,add_zero→jK,le_trans→qG,reduceBEq→jO,le_refl→jL,reduceAdd→jM
open Option renaming getD_some→jA,getD_none→jT
theorem AUR (last:List Int)(lm:SM)(h:Hp)(hl:last.length≤1048576) : ∃ u h',GM Tryz.prog true h 26 26 (.sl .nil 0 []) (.sl lm 1 (last.map qencI))=some (u,h')∧AJ1 1 (last.map qencI) h u h':=by
 cases hx:last with
 | nil=>exact⟨_,_,(by kernel_rfl),.inl ⟨rfl,⟨0,rfl⟩,rfl⟩⟩
 | cons y ys =>
   have hne:last.map qencI≠[]:=by rw[hx]; simp
   rw[← hx]
   exact⟨_,_,QE VF sz3 YL XC (JF _ lm 1 (last.map qencI)) hne (JB (by simp; omega) (by omega)),.inr (.inr ⟨hne,rfl,rfl⟩)⟩
theorem A3Z (p:Pt)(last:List Int)(l:List Sg)(h1:G6 p=0)(h2:lastB last=true)(h3:(evE l p.ex).2=0) :
  ptE p last l=⟨if(inK p.bins 2 (evE l p.ex).1 || inK p.bins 1 (evE l p.ex).1)=true then [] else AAG p last (evE l p.ex).1 0,nextL last (evE l p.ex).1,inK p.bins 2 (evE l p.ex).1,0⟩:=by
 unfold ptE
 rw[if_neg (by rw[h1,h2]; simp),if_neg (by simpa using h3)]
 cases h4:inK p.bins 2 (evE l p.ex).1
 ·cases h5:inK p.bins 1 (evE l p.ex).1
  ·rfl
  ·rfl
 ·rfl
section
variable (G:Nat→AV)
set_option maxHeartbeats 2000000 in
theorem AU0 (p:Pt)(hp:PtOk p)(last:List Int)(lm:SM)(l:List Sg)(m:SM)(h:Hp)(hll:last.length≤1048576)(hl:l.length≤1099511627776)(hok : ∀ s∈l,XF s) :
  PCall (En G) 122 [.agg (GI p),.sl lm 1 (last.map qencI),.sl m 2 (l.map G8)] h (ptV (ptE p last l)):=by
 refine PCall.res (r:=ptW (ptE p last l)) ?_ (AV1 _)
 refine ACalls.pure (R:=fun v H=>ext h H∧IL h.length H 4 v=ptW (ptE p last l)) 4 ?_ (fun v H ⟨a,b⟩=>⟨a,b⟩)
 have hnum:=hp.num
 refine acN Tryz.func122 rfl ?_
 show awp _ _ _ _ _ (EM _ [.tmp 6,.tmp 7,.tmp 8,.tmp 9] _)
 have gp:=CZ h (ABlk.live 6 [GI p])
 have hx:ext h (h++[ABlk.live 6 [GI p]]):=(ext.rfl' h).app _
 simp -implicitDefEqProofs only[vQ,BD,↓reduceIte,jB,enP,bxP]
 generalize h++[ABlk.live 6 [GI p]]=H1 at gp hx ⊢
 simp -implicitDefEqProofs only[vQ,BD,↓reduceIte,ldP gp]
 refine(AHL G p hp H1).use ?_
 simp -implicitDefEqProofs only[vQ,CP,BD,↓reduceIte,enP]
 cases h1:(G6 p == 0)
 ·have hne:G6 p≠0:=by simpa using h1
  simp -implicitDefEqProofs only[vQ,QQ,CP,BD,EW,↓reduceIte,jB,bne,h1]
  exact⟨hx,by unfold ptE; rw[if_pos (.inl hne)]; rfl⟩
 have hp0:G6 p=0:=by simpa using h1
 simp -implicitDefEqProofs only[vQ,CP,BD,↓reduceIte,jB,jU,bne,h1]
 refine(AHQ G last lm H1 (by omega)).use ?_
 simp -implicitDefEqProofs only[vQ,CP,BD,↓reduceIte,jB]
 cases h2:lastB last
 ·simp -implicitDefEqProofs only[vQ,QQ,BD,↓reduceIte,jB]
  exact⟨hx,by unfold ptE; rw[if_pos (.inr h2)]; rfl⟩
 have h7:last.length≤7:=by
  unfold lastB at h2
  rw[jX] at h2
  simpa using h2.1
 simp -implicitDefEqProofs only[vQ,BD,↓reduceIte,jB,jU,enP,Y6,AI9 gp]
 refine(AY6 G l m p.ex H1 hl hok hp.ex).use ?_
 cases h3:((evE l p.ex).2 == 0)
 ·have hne:(evE l p.ex).2≠0:=by simpa using h3
  unfold evV
  simp -implicitDefEqProofs only[vQ,zB,zD,QQ,BD,↓reduceIte,jB,enP,bne,h3]
  exact⟨hx,by unfold ptE; rw[if_neg (by rw[hp0,h2]; simp),if_pos hne]; rfl⟩
 have he0:(evE l p.ex).2=0:=by simpa using h3
 rw[A3Z p last l hp0 h2 he0]
 unfold evV
 simp -implicitDefEqProofs only[vQ,zB,zD,BD,↓reduceIte,jB,jU,enP,bne,h3]
 generalize (evE l p.ex).1=v
 clear h3 he0
 have l5 : ∀ H:Hp,ext H1 H→D8 Tryz.prog H 49 (.ptr h.length 0 5)=some (.sl p.bm 4 (p.bins.map G9)):=fun H hH=>by rw[DY RD (FD hH gp) (row:=GI p) rfl,NG]
 simp -implicitDefEqProofs only[vQ,BD,↓reduceIte,jB,ldP gp]
 refine(AXA G p hp 2 (v:Nat) H1).use ?_
 simp -implicitDefEqProofs only[vQ,BD,↓reduceIte]
 refine GZ 0 (fun F H => ∃ u,F 1 = .sl lm 1 (last.map qencI)∧F 10 = .int .i64 (v:Nat)∧F 12 = .bool (inK p.bins 2 (v:Nat))∧F 13=u∧ext H1 H∧outG 1 JI H1 (if(inK p.bins 2 (v:Nat) || inK p.bins 1 (v:Nat))=true then [] else AAG p last (v:Nat) 0) u H) (fun _ _=>False) ?_ ?_ (fun _ _ hh=>hh.elim)
 ·refine DL (fun n F H => ∃ k u,n+k=p.bins.length∧F 1 = .sl lm 1 (last.map qencI)∧F 3 = .ptr h.length 0 0∧F 10 = .int .i64 (v:Nat)∧F 12 = .bool (inK p.bins 2 (v:Nat))∧F 13=u∧F 14 = .int .i64 (k:Nat)∧ext H1 H∧outG 1 JI H1 (if(inK p.bins 2 (v:Nat) || inK p.bins 1 (v:Nat))=true then [] else NQ p.bins last (v:Nat) 0 k) u H) p.bins.length
   ⟨0,.sl .nil 0 [],by simp,by simp -implicitDefEqProofs only[vQ,↓reduceIte,jB],by simp -implicitDefEqProofs only[AA,↓reduceIte,jB],by simp -implicitDefEqProofs only[AA,↓reduceIte,jB],by simp -implicitDefEqProofs only[AA,↓reduceIte,jB],by simp -implicitDefEqProofs only[AA,↓reduceIte,jB],by simp -implicitDefEqProofs only[AA,↓reduceIte] <;> rfl,ext.rfl' _,by split <;> exact outG.nil _ _ _ _⟩ ?_
  rintro n F H ⟨k,u,hk,f1,f3,f10,f12,f13,f14,hxH,ho⟩
  simp -implicitDefEqProofs only[vQ,CP,BD,↓reduceIte,jB,enP,PE,IE,f3,f14,l5 H hxH,jH]
  cases hc:decide (((k:Nat):Int) < ((p.bins.length:Nat):Int))
  ·have hk':k=p.bins.length:=by
    have : ¬ k < p.bins.length:=by simpa using hc
    omega
   subst hk'
   simp -implicitDefEqProofs only[vQ,CP,BD,EW,↓reduceIte,jB]
   exact⟨u,by trivial,by trivial,by trivial,by trivial,hxH,ho⟩
  have hk':k < p.bins.length:=by simpa using hc
  simp -implicitDefEqProofs only[vQ,CP,BD,↓reduceIte,jB,f12]
  cases h4:inK p.bins 2 (v:Nat)
  ·rw[h4] at ho f12
   have gpH:=FD hxH gp
   simp -implicitDefEqProofs only[vQ,qR,CP,BD,↓reduceIte,jB,enP,f3,f10,ldP gpH]
   refine(AXA G p hp 1 (v:Nat) H).use ?_
   simp -implicitDefEqProofs only[vQ,CP,BD,↓reduceIte,jB]
   cases h5:inK p.bins 1 (v:Nat)
   ·rw[h5] at ho
    rw[if_neg (by decide)] at ho
    have hbok:=hp.bins _ (jP hk')
    have hlen:=XN p.bins last (v:Nat) 0 k
    have hs:=Y4 p.bins last (v:Nat) 0 k hk'
    have lk:D8 Tryz.prog H 3 (.fptr 4 (p.bins.map G9) k 1)=some (.int .i64 p.bins[k].kind):=by rw[CY ag3 hk']; rfl
    have hKv:hK last (v:Nat) 0 p.bins[k]=((p.bins[k].kind == 0) && hit p.bins[k] last (v:Nat)):=by unfold hK; simp
    simp -implicitDefEqProofs only[vQ,CP,BD,↓reduceIte,jB,enP,SA,IE,ND,Bool.false_eq_true,f3,f14,l5 H hxH,DN hk',lk]
    have skip:hK last (v:Nat) 0 p.bins[k]=false→outG 1 JI H1 (NQ p.bins last (v:Nat) 0 (k+1)) u H:=fun q=>by rw[hs,q]; simpa using ho
    cases hq:(p.bins[k].kind == 0)
    ·rw[hq,qK] at hKv
     simp -implicitDefEqProofs only[vQ,CP,BD,EW,↓reduceIte,jB,enP,f14,wrap_succ (show k < 9223372036854775807 by omega)]
     exact⟨n - 1,by omega,k+1,u,by omega,by trivial,by trivial,by trivial,by trivial,by trivial,by trivial,hxH,by exact skip hKv⟩
    ·rw[hq,qF] at hKv
     simp -implicitDefEqProofs only[vQ,CP,BD,↓reduceIte,jB,enP,SA,IE,f1,f3,f10,f14,l5 H hxH,DN hk',FU AC6 YQ MG hk']
     refine(hit_ref G p.bins[k] hbok last lm (v:Nat) H (by omega)).use ?_
     simp -implicitDefEqProofs only[vQ,BD,↓reduceIte,jB]
     cases hv:hit p.bins[k] last (v:Nat)
     ·rw[hv] at hKv
      simp -implicitDefEqProofs only[vQ,BD,↓reduceIte,jB,enP,f14,wrap_succ (show k < 9223372036854775807 by omega)]
      exact⟨n - 1,by omega,k+1,u,by omega,by trivial,by trivial,by trivial,by trivial,by trivial,by trivial,hxH,by exact skip hKv⟩
     ·rw[hv] at hKv
      rw[hKv,if_pos rfl] at hs
      obtain⟨u',H3,ha,ho2,_,hx2,_,_⟩:=ho.append (P:=Tryz.prog) VF sz3 YL XC (by omega) (by omega) hxH k
      have ha':GM Tryz.prog true H 26 26 u (.sl .full 1 [[.int .i64 ((k:Nat):Int)]])=some (u',H3):=ha
      simp -implicitDefEqProofs only[vQ,BD,↓reduceIte,jB,enP,f13,f14,AG2,ha',wrap_succ (show k < 9223372036854775807 by omega)]
      exact⟨n - 1,by omega,k+1,u',by omega,by trivial,by trivial,by trivial,by trivial,by trivial,by trivial,hx2,by rw[hs]; exact ho2⟩
   ·rw[h5] at ho
    simp -implicitDefEqProofs only[vQ,↓reduceIte,jB,jU]
    exact⟨u,by trivial,by trivial,by trivial,by trivial,hxH,ho⟩
  ·rw[h4] at ho f12
   simp -implicitDefEqProofs only[vQ,wU,CP,BD,EW,↓reduceIte,jB,jU]
   exact⟨u,by trivial,by trivial,by trivial,by trivial,hxH,ho⟩
 ·rintro F H ⟨u,f1,f10,f12,f13,hxH,ho⟩
  obtain⟨w,H2,ha,hc⟩:=AUR last lm H hll
  obtain⟨o,H3,ha3,ho3,hol,hx3⟩:=AIB (v:Nat) hc hll
  have ho':outG 1 JI H1 (if(inK p.bins 2 (v:Nat) || inK p.bins 1 (v:Nat))=true then [] else AAG p last (v:Nat) 0) u H3:=by
   obtain⟨y,rfl⟩:=hx3
   exact ho.app y
  have hxa:=(hx.trans hxH).trans hx3
  have hle:=hx.le
  have hle2:=hxH.le
  have e1:=UZ AXJ ho' h.length 1 hle
  have hnl:(last++[((v:Nat):Int)]).drop (last.length+1 - 7)=nextL last v:=rfl
  have hne:=ALZ last v
  simp -implicitDefEqProofs only[vQ,BD,↓reduceIte,jB,enP,IZ,f1,ha,f10,AG2,ha3]
  rcases Classical.em (last.length=7) with e7 | e7
  ·have hd:decide (((last.length+1:Nat):Int) > 7)=true:=decide_eq_true (by omega)
   have hsl:KL Tryz.prog H3 26 (.own o 0 (last.length+1)) (some (.int .i64 1)) none none=some (.own o 1 (last.length+1 - 1)):=AVU (u:=1) ho3 (by omega)
   have e2:IL h.length H3 3 (.own o 1 (last.length+1 - 1))=fzG 1 qencI (nextL last v):=by
    rw[AR2 (d:=1) (xs:=last++[((v:Nat):Int)]) A00 (by omega) ho3 (by simp <;> omega),AJK hne,← hnl,show last.length+1 - 7=1 by omega]
   simp -implicitDefEqProofs only[vQ,Option.map_some,Option.map_none,QQ,BD,TE,↓reduceIte,jB,enP,hd,hsl,f12,f13]
   refine⟨hxa,?_⟩
   show AV.tup [IL h.length H3 3 u,IL h.length H3 3 (.own o 1 (last.length+1 - 1)),.bool _,.int .i64 0]=_
   rw[e1,e2]; rfl
  ·have hd:decide (((last.length+1:Nat):Int) > 7)=false:=decide_eq_false (by omega)
   have e2:IL h.length H3 3 (.own o 0 (last.length+1))=fzG 1 qencI (nextL last v):=by
    rw[AR2 (d:=1) (xs:=last++[((v:Nat):Int)]) A00 (by omega) ho3 (by simp <;> omega),AJK hne,← hnl,show last.length+1 - 7=0 by omega]
   simp -implicitDefEqProofs only[vQ,QQ,BD,↓reduceIte,jB,hd,f12,f13]
   refine⟨hxa,?_⟩
   show AV.tup [IL h.length H3 3 u,IL h.length H3 3 (.own o 0 (last.length+1)),.bool _,.int .i64 0]=_
   rw[e1,e2]; rfl
def ACX (m:Mo)(t:Tk):Bool:=(FX m == 0) && (((t.last.length:Nat):Int) == ((m.pts.length:Nat):Int)) && t.last.all fun x=>lastB x.l
structure TkOk (t:Tk):Prop where
 num:t.last.length≤1048576
 len : ∀ x∈t.last,x.l.length≤1048576
theorem bxT (h:Hp)(t:Tk):O7 h (.agg (LZ t))=some (.ptr h.length 0 0,h++[.live 1 [LZ t]]):=rfl
theorem A2Y (t:Tk):(LZ t)[0]? = some (.sl t.m 1 (t.last.map encL)):=rfl
theorem AP9 (m:Mo)(hm:MoOk m)(t:Tk)(ht:TkOk t)(h:Hp):PCall (En G) 121 [.agg (EE m),.agg (LZ t)] h (.bool (ACX m t)):=by
 refine ACalls.pure0 rfl ?_
 have hn:=ht.num
 refine acN Tryz.func121 rfl ?_
 show awp _ _ _ _ _ (EM _ [.tmp 4] _)
 have gm:=CX (x:=ABlk.live 1 [LZ t]) (CZ h (ABlk.live 2 [EE m]))
 have gt:=CZ (h++[ABlk.live 2 [EE m]]) (ABlk.live 1 [LZ t])
 have hx:ext h (h++[ABlk.live 2 [EE m]]++[ABlk.live 1 [LZ t]]):=((ext.rfl' h).app _).app _
 simp -implicitDefEqProofs only[vQ,BD,↓reduceIte,jB,enP,bxM,bxT]
 generalize h++[ABlk.live 2 [EE m]]++[ABlk.live 1 [LZ t]]=H at gm gt hx ⊢
 generalize (h++[ABlk.live 2 [EE m]]).length=tb at gt ⊢
 have l0:D8 Tryz.prog H 22 (.ptr h.length 0 0)=some (.sl m.pm 6 (m.pts.map GI)):=by rw[DY ZB gm (row:=EE m) rfl,SL]
 have lt0:D8 Tryz.prog H 67 (.ptr tb 0 0)=some (.sl t.m 1 (t.last.map encL)):=by rw[DY UE gt (row:=LZ t) rfl,A2Y]
 simp -implicitDefEqProofs only[vQ,BD,↓reduceIte,ldM gm]
 refine(RH G m hm H).use ?_
 simp -implicitDefEqProofs only[vQ,CP,BD,↓reduceIte,enP]
 unfold ACX
 cases h1:(FX m == 0)
 ·simp -implicitDefEqProofs only[vQ,CP,BD,EW,↓reduceIte,jB,bne,h1]
  exact⟨by trivial,hx⟩
 simp -implicitDefEqProofs only[vQ,CP,BD,↓reduceIte,jB,jU,enP,OE,GU,AC0,Q5,bne,h1,l0,lt0,jH]
 cases h2:(((t.last.length:Nat):Int) == ((m.pts.length:Nat):Int))
 ·simp -implicitDefEqProofs only[vQ,BD,↓reduceIte]
  exact⟨by trivial,hx⟩
 simp -implicitDefEqProofs only[vQ,BD,jU]
 refine DL (fun n F H' => ∃ k,n+k=t.last.length∧F 3 = .ptr tb 0 0∧F 5 = .int .i64 (k:Nat)∧H'=H∧(t.last.all fun x=>lastB x.l)=(t.last.drop k).all fun x=>lastB x.l) t.last.length ⟨0,by simp,by simp -implicitDefEqProofs only[AA,↓reduceIte,jB],by simp -implicitDefEqProofs only[AA,↓reduceIte] <;> rfl,rfl,rfl⟩ ?_
 rintro n F H' ⟨k,hk,f3,f5,rfl,hin⟩
 simp -implicitDefEqProofs only[vQ,BD,↓reduceIte,jB,enP,AC0,Q5,f3,f5,lt0,jH]
 refine CU (fun hc => ?_) (fun hc => ?_)
 ·have hk':k < t.last.length:=by simpa using hc
  rw[zK hk',List.all_cons] at hin
  simp -implicitDefEqProofs only[vQ,BD,↓reduceIte,jB,enP,PO,Q5,f3,f5,lt0,DN hk',CY KO hk',PT]
  refine(AHQ G t.last[k].l t.last[k].m H' (by have:=ht.len _ (jP hk'); omega)).use ?_
  simp -implicitDefEqProofs only[vQ,BD,↓reduceIte]
  cases hq:lastB t.last[k].l
  ·rw[hq,qK] at hin
   simp -implicitDefEqProofs only[vQ,BD,↓reduceIte]
   exact⟨by rw[hin]; rfl,hx⟩
  ·rw[hq,qF] at hin
   simp -implicitDefEqProofs only[vQ,BD,↓reduceIte,jB,jU,enP,f5,wrap_succ (show k < 9223372036854775807 by omega)]
   exact⟨n - 1,by omega,k+1,by omega,by trivial,by trivial,trivial,hin⟩
 ·have hk' : ¬ k < t.last.length:=by simpa using hc
  rw[jV (by omega)] at hin
  simp -implicitDefEqProofs only[vQ,BD,↓reduceIte]
  exact⟨by rw[hin]; rfl,hx⟩
end
def NLB (o:Nat)(bs:List Nat)(xss:List (List Int))(b:Nat):Prop:=(xss≠[]∧b=o)∨b∈bs
theorem NL.lt {n0:Nat}{H:Hp}{o:Nat}{bs:List Nat}{xss:List (List Int)}(N:NL n0 H o bs xss){b:Nat}(hb:NLB o bs xss b):n0≤b∧b < H.length:=by
 rcases hb with⟨h,rfl⟩ | h
 ·exact⟨N.lo' h,N.top_lt h⟩
 ·exact⟨N.lo _ h,N.mem_lt h⟩
theorem NL.base {n0 k:Nat}{H:Hp}{o:Nat}{bs:List Nat}{xss:List (List Int)}(N:NL n0 H o bs xss)(h:k≤n0):NL k H o bs xss :=
 ⟨N.len,N.top,N.row,N.nodup,N.out,fun b hb=>qG h (N.lo b hb),fun q=>qG h (N.lo' q)⟩
theorem ADN {o:Nat}{bs:List Nat}{xss:List (List Int)}{q:Nat}(h:isB (nlV o xss) q):NLB o bs xss q := .inl (AAE h)
theorem AGE {o t b:Nat}{bs:List Nat}{xss:List (List Int)}{xs:List Int}{q:Nat}(h:NLB t (bs++[b]) (xss++[xs]) q):q=t∨NLB o bs xss q∨q=b:=by
 rcases h with⟨_,rfl⟩ | h
 ·exact .inl rfl
 ·rcases qI.1 h with h | h
  ·exact .inr (.inl (.inr h))
  ·exact .inr (.inr (by simpa using h))
def zP (m:Mo):List (List Int):=m.pts.map fun p=>zeros p.bins.length
def zC (m:Mo):List (List Int):=m.crs.map fun c=>zeros (H8 (szs m c.pts))
theorem AA6 (m:Mo):(zP m).length=m.pts.length:=by simp [zP]
theorem AA7 (m:Mo):(zC m).length=m.crs.length:=by simp [zC]
theorem AQJ (m:Mo)(i:Nat)(hi:i < m.pts.length):(zP m).take (i+1)=(zP m).take i++[zeros m.pts[i].bins.length]:=by
 have hl:i < (zP m).length:=by unfold zP; simpa using hi
 rw[zN hl]; simp [zP]
theorem AQL (m:Mo)(i:Nat)(hi:i < m.crs.length):(zC m).take (i+1)=(zC m).take i++[zeros (H8 (szs m m.crs[i].pts))]:=by
 have hl:i < (zC m).length:=by unfold zC; simpa using hi
 rw[zN hl]; simp [zC]
theorem RF (n:Nat):(zeros n).length=n:=by simp [zeros]
structure NC (n0:Nat) (H:Hp) (po:Nat) (pb:List Nat) (co:Nat) (cbs:List Nat) (P C:List (List Int)):Prop where
 np:NL n0 H po pb P
 nc:NL n0 H co cbs C
 dis : ∀ b,NLB po pb P b→¬ NLB co cbs C b
theorem NC.keep {n0:Nat}{H H':Hp}{po:Nat}{pb:List Nat}{co:Nat}{cbs:List Nat}{P C:List (List Int)}(N:NC n0 H po pb co cbs P C)(hk : ∀ b x,n0≤b→b < H.length→H[b]? = some x→H'[b]? = some x):NC n0 H' po pb co cbs P C :=
 ⟨N.np.keep fun b x hb h=>hk b x (N.np.lt hb).1 (N.np.lt hb).2 h,N.nc.keep fun b x hb h=>hk b x (N.nc.lt hb).1 (N.nc.lt hb).2 h,N.dis⟩
theorem NC.base {n0 k:Nat}{H:Hp}{po:Nat}{pb:List Nat}{co:Nat}{cbs:List Nat}{P C:List (List Int)}(N:NC n0 H po pb co cbs P C)(h:k≤n0):NC k H po pb co cbs P C:=⟨N.np.base h,N.nc.base h,N.dis⟩
theorem NC.cs {n0:Nat}{H:Hp}{po:Nat}{pb:List Nat}{co:Nat}{cbs:List Nat}{P C:List (List Int)}(N:NC n0 H po pb co cbs P C){cb tb:Nat}{sam ill:Int}{v3:AV}(gc:H[cb]? = some (.live 4 [cvR po P co C sam ill]))(gt:H[tb]? = some (.live 1 [[v3]]))(ht:cb≠tb)
  (hc : ∀ b,NLB po pb P b∨NLB co cbs C b→b≠cb∧b≠tb):CS n0 H cb tb po co pb cbs P C sam ill v3:=by
 refine⟨gc,gt,N.np,N.nc,fun b h1 h2=>N.dis b (.inr h1) (.inr h2),fun h=>(hc _ (.inl (.inr h))).1 rfl,fun h=>(hc _ (.inr (.inr h))).1 rfl,fun h=>(hc _ (.inl (.inr h))).2 rfl,fun h=>(hc _ (.inr (.inr h))).2 rfl,fun h=>⟨fun q=>N.dis _ (.inl ⟨h,rfl⟩) (.inr q),?_,?_⟩,fun h=>⟨fun q=>N.dis _ (.inr q) (.inl ⟨h,rfl⟩),?_,?_⟩,ht⟩
 ·exact fun e=>(hc _ (.inl (.inl ⟨h,rfl⟩))).1 e.symm
 ·exact fun e=>(hc _ (.inl (.inl ⟨h,rfl⟩))).2 e.symm
 ·exact fun e=>(hc _ (.inr (.inl ⟨h,rfl⟩))).1 e.symm
 ·exact fun e=>(hc _ (.inr (.inl ⟨h,rfl⟩))).2 e.symm
structure EmO (h H:Hp) (m:Mo) (po:Nat) (pb:List Nat) (co:Nat) (cbs:List Nat) (v3:AV):Prop where
 nc:NC h.length H po pb co cbs (zP m) (zC m)
 o3:outG 1 (fun _:Pt=>GH) h m.pts v3 H
set_option maxHeartbeats 4000000 in
theorem AUA (G:Nat→AV)(m:Mo)(hm:MoOk m)(hg:Cov.Good m)(h:Hp):ACalls (En G) 111 [.agg (EE m)] h fun v H=>ext h H∧∃ po pb co cbs v3,v = .tup [.agg (I9 (nlV po (zP m)) (nlV co (zC m))),.agg [v3]]∧EmO h H m po pb co cbs v3:=by
 have hm1:=hm.np
 have hm2:=hm.nc
 have hnum:=hg.num
 refine MJ (H:=hint [22,23,24,45,46,47] []) (enM G) Tryz.func111 rfl (by kernel_rfl) (by kernel_rfl) (jI (by kernel_rfl)) ?_
 show awp _ _ _ _ _ (EM _ [.cell 2 81,.cell 3 120] _)
 have E:=Em.mk' h m
 simp -implicitDefEqProofs only[vQ,jR,jJ,jO,jQ,BD,↓reduceIte,jB,enP,GU,bxM,PU,AC5]
 generalize h++[ABlk.live 2 [EE m]]++[ABlk.live 4 [GG]]++[ABlk.live 1 [GH]]++[ABlk.live 4 [GG]]++[ABlk.live 1 [GH]]=H0 at E ⊢
 generalize (h++[ABlk.live 2 [EE m]]++[ABlk.live 4 [GG]]++[ABlk.live 1 [GH]]++[ABlk.live 4 [GG]]).length=b5 at E ⊢
 generalize (h++[ABlk.live 2 [EE m]]++[ABlk.live 4 [GG]]++[ABlk.live 1 [GH]]).length=b4 at E ⊢
 generalize (h++[ABlk.live 2 [EE m]]++[ABlk.live 4 [GG]]).length=b3 at E ⊢
 generalize (h++[ABlk.live 2 [EE m]]).length=b2 at E ⊢
 have o2:=E.o2; have o3:=E.o3; have o4:=E.o4; have o5:=E.o5
 have hlt0:=E.lt
 simp -implicitDefEqProofs only[vQ,jR,jJ,jO,jQ,BD,↓reduceIte,enP,OE,E.m0,jH]
 refine GZ 0 (fun F H => ∃ po pb v3,F 1 = .ptr h.length 0 0∧F 2 = .ptr b2 0 0∧F 3 = .ptr b3 0 0∧F 4 = .ptr b4 0 0∧F 5 = .ptr b5 0 0∧Em h H m b2 b3 b4 b5 (nlV po (zP m)) (.sl .nil 0 []) v3∧NL H0.length H po pb (zP m)∧outG 1 (fun _:Pt=>GH) H0 m.pts v3 H∧(∀ b,NLB po pb (zP m) b→¬ isB v3 b)∧H0.length≤H.length) (fun _ _=>False) ?_ ?_ (fun _ _ hh=>hh.elim)
 ·refine DL (fun n F H => ∃ i po pb v3,n+i=m.pts.length∧F 1 = .ptr h.length 0 0∧F 2 = .ptr b2 0 0∧F 3 = .ptr b3 0 0∧F 4 = .ptr b4 0 0∧F 5 = .ptr b5 0 0∧F 11 = .sl m.pm 6 (m.pts.map GI)∧F 12 = .int .i64 m.pts.length∧F 13 = .int .i64 (i:Nat)∧Em h H m b2 b3 b4 b5 (nlV po ((zP m).take i)) (.sl .nil 0 []) v3∧NL H0.length H po pb ((zP m).take i)∧outG 1 (fun _:Pt=>GH) H0 (m.pts.take i) v3 H∧(∀ b,NLB po pb ((zP m).take i) b→¬ isB v3 b)∧H0.length≤H.length) m.pts.length
   ⟨0,0,[],.sl .nil 0 [],by simp,by simp -implicitDefEqProofs only[AA,↓reduceIte,jB],by simp -implicitDefEqProofs only[AA,↓reduceIte,jB],by simp -implicitDefEqProofs only[AA,↓reduceIte,jB],by simp -implicitDefEqProofs only[AA,↓reduceIte,jB],by simp -implicitDefEqProofs only[AA,↓reduceIte,jB],by simp -implicitDefEqProofs only[AA,↓reduceIte,jB],by simp -implicitDefEqProofs only[AA,↓reduceIte,jB],by simp -implicitDefEqProofs only[AA,↓reduceIte]; rfl,by rw[qB]; exact E,by rw[qB]; exact NL.nil _ _ _,by rw[qB]; exact outG.nil _ _ _ _,fun b _ hb'=>hb',jL _⟩ ?_
  clear E
  rintro n F H ⟨i,po,pb,v3,hi,f1,f2,f3,f4,f5,f11,f12,f13,E,N,ho3,hdis,hle⟩
  simp -implicitDefEqProofs only[vQ,jR,jJ,jO,jQ,BD,↓reduceIte,enP,f12,f13]
  refine CU (fun hc => ?_) (fun hc => ?_)
  ·have hi':i < m.pts.length:=by simpa using hc
   have h64:=(hg.full _ (jP hi')).2
   have hP:=AQJ m i hi'
   have hzl:=RF m.pts[i].bins.length
   have htl:((zP m).take i).length≤1048576:=by rw[zJ,AA6]; omega
   simp -implicitDefEqProofs only[vQ,jR,jJ,jO,jQ,BD,↓reduceIte,jB,enP,PG,jT,f11,f13,DN hi',FU AC7 ZP JL hi',A12,AZO _ _ [.str ⟨#[]⟩,.int .i64 0,.int .i64 0,.str ⟨#[]⟩,.sl .nil 0 [],.sl .nil 0 []] rfl]
   have hl1:(H++[ABlk.live 6 [GI m.pts[i]]]).length=H.length+1:=by simp
   have E1:=E.app [.live 6 [GI m.pts[i]]]
   have N1:=N.app [.live 6 [GI m.pts[i]]]
   have ho1:=ho3.app [.live 6 [GI m.pts[i]]]
   have lp:D8 Tryz.prog (H++[ABlk.live 6 [GI m.pts[i]]]) 49 (.ptr H.length 0 5)=some (.sl m.pts[i].bm 4 (m.pts[i].bins.map G9)):=by rw[DW RD,NG]
   generalize H++[ABlk.live 6 [GI m.pts[i]]]=Ha at hl1 E1 N1 ho1 lp ⊢
   have N2:=(N1.app [.live 1 ((zeros m.pts[i].bins.length).map qencI)]).app [.live 1 [[.own Ha.length 0 m.pts[i].bins.length]]]
   have E2:=(E1.app [.live 1 ((zeros m.pts[i].bins.length).map qencI)]).app [.live 1 [[.own Ha.length 0 m.pts[i].bins.length]]]
   have ho2:=(ho1.app [.live 1 ((zeros m.pts[i].bins.length).map qencI)]).app [.live 1 [[.own Ha.length 0 m.pts[i].bins.length]]]
   have gb:=CX (x:=ABlk.live 1 [[.own Ha.length 0 m.pts[i].bins.length]]) (CZ Ha (ABlk.live 1 ((zeros m.pts[i].bins.length).map qencI)))
   have gt:=CZ (Ha++[ABlk.live 1 ((zeros m.pts[i].bins.length).map qencI)]) (ABlk.live 1 [[.own Ha.length 0 m.pts[i].bins.length]])
   have hl2:(Ha++[ABlk.live 1 ((zeros m.pts[i].bins.length).map qencI)]++[ABlk.live 1 [[.own Ha.length 0 m.pts[i].bins.length]]]).length=Ha.length+2:=by simp
   refine EY (by kernel_rfl) ?_
   simp -implicitDefEqProofs only[vQ,jR,jJ,jO,jQ,wK,IP,NI,KJ,↓reduceIte,jB,jM,enP,PE,IE,OO,f4,E1.l4,lp,jH,mkI _ _ (show m.pts[i].bins.length≤1048576 by omega),ADG]
   generalize Ha++[ABlk.live 1 ((zeros m.pts[i].bins.length).map qencI)]++[ABlk.live 1 [[.own Ha.length 0 m.pts[i].bins.length]]]=Hb at N2 E2 ho2 gb gt hl2 ⊢
   generalize (Ha++[ABlk.live 1 ((zeros m.pts[i].bins.length).map qencI)]).length=tb at gt ⊢
   obtain⟨H2,hap,N3,hk,hl3,hx3⟩:=N2.snoc gb (by omega) (by omega) (fun q=>by have:=N.mem_lt q; omega) (fun q e=>by have:=N.top_lt q; omega) (by rw[hzl]; exact gt) htl
   rw[← hP] at N3 hap
   have hne:(zP m).take (i+1)≠[]:=by rw[hP]; simp
   have E3:=E2.keep hk (fun b hb=>by
    obtain⟨q,rfl⟩:=AAE hb
    have:=N.lo' q; omega) (hx3 h (by omega))
   rw[PY _ hne] at hap
   refine KQ hap ?_
   have E4:=E3.set4 (.own Hb.length 0 ((zP m).take (i+1)).length) (.sl .nil 0 [])
   have ho4:=(ho2.keepA hk (fun b hb hb'=>hdis b (ADN hb') hb)).setB (b:=b4) (by omega) (.live 4 [I9 (.own Hb.length 0 ((zP m).take (i+1)).length) (.sl .nil 0 [])])
   have N4:NL H0.length (H2.set b4 (.live 4 [I9 (.own Hb.length 0 ((zP m).take (i+1)).length) (.sl .nil 0 [])])) Hb.length (pb++[Ha.length]) ((zP m).take (i+1)):=N3.keep fun b x hb hg=>CV hg (by have:=N3.lt hb; omega)
   have hl4:(H2.set b4 (.live 4 [I9 (.own Hb.length 0 ((zP m).take (i+1)).length) (.sl .nil 0 [])])).length=H2.length:=by simp
   simp -implicitDefEqProofs only[vQ,jR,jJ,jO,jQ,BD,↓reduceIte,jB,jM,enP,OO,jT,f4,E3.s4]
   generalize H2.set b4 (.live 4 [I9 (.own Hb.length 0 ((zP m).take (i+1)).length) (.sl .nil 0 [])])=H4 at E4 ho4 N4 hl4 ⊢
   obtain⟨v3',H5,hap3,ho5,hk3,hl5,hn3,⟨o3',l3,rfl⟩,hx5⟩:=ho4.app2 AIQ ABB AN0 AJ3 (by omega) (by rw[zJ]; omega) (by omega) m.pts[i]
   rw[← zN hi'] at ho5
   have E5:=E4.keep hk3 (fun b hb=>by have:=ho4.lt hb; omega) (hx5 h (by omega))
   have E6:=E5.set5 (.own o3' 0 l3)
   have ho6:=ho5.setB (b:=b5) (by omega) (.live 1 [[.own o3' 0 l3]])
   have N5:NL H0.length (H5.set b5 (.live 1 [[.own o3' 0 l3]])) Hb.length (pb++[Ha.length]) ((zP m).take (i+1)):=N4.keep fun b x hb hg=>CV (hk3 b x hg (fun q=>by
    rw[hP] at hb
    rcases AGE (o:=po) hb with rfl | hb | rfl
    ·have:=ho3.lt q; omega
    ·exact hdis _ hb q
    ·have:=ho3.lt q; omega)) (by have:=N4.lt hb; omega)
   simp -implicitDefEqProofs only[vQ,jR,jJ,jO,jQ,BD,↓reduceIte,jB,enP,Q5,f5,E4.l5,A7F]
   refine KQ (v := .own o3' 0 l3) (h:=H5) hap3 ?_
   simp -implicitDefEqProofs only[vQ,jR,jJ,jO,jQ,BD,↓reduceIte,jB,enP,Q5,jT,f5,E5.s5,f13,wrap_succ (show i < 9223372036854775807 by omega)]
   rw[← PY _ hne] at E6
   exact⟨n - 1,by omega,i+1,Hb.length,_,.own o3' 0 l3,by omega,by trivial,by trivial,by trivial,by trivial,by trivial,by trivial,by trivial,by trivial,E6,N5,ho6,fun b hb hb'=>by
    have h1:=hn3 b hb'
    have h2:=N4.lt hb
    omega,by rw[qW]; omega⟩
  ·have hi' : ¬ i < m.pts.length:=by simpa using hc
   rw[jW (by rw[AA6]; omega)] at N E hdis
   rw[jW (by omega)] at ho3
   simp -implicitDefEqProofs only[vQ,↓reduceIte,jB]
   exact⟨po,pb,v3,f1,f2,f3,f4,f5,E,N,ho3,hdis,hle⟩
 ·rintro F H ⟨po,pb,v3,f1,f2,f3,f4,f5,E,N,ho3,hdis,hle⟩
  simp -implicitDefEqProofs only[vQ,jR,jJ,jO,jQ,BD,↓reduceIte,enP,UU,IV,f1,E.m1,jH]
  refine GZ 2 (fun F H => ∃ co cbs,F 2 = .ptr b2 0 0∧F 3 = .ptr b3 0 0∧F 4 = .ptr b4 0 0∧F 5 = .ptr b5 0 0∧Em h H m b2 b3 b4 b5 (nlV po (zP m)) (nlV co (zC m)) v3∧NC H0.length H po pb co cbs (zP m) (zC m)∧outG 1 (fun _:Pt=>GH) H0 m.pts v3 H) (fun _ _=>False) ?_ ?_ (fun _ _ hh=>hh.elim)
  ·refine DL (fun n F H => ∃ i co cbs,n+i=m.crs.length∧F 1 = .ptr h.length 0 0∧F 2 = .ptr b2 0 0∧F 3 = .ptr b3 0 0∧F 4 = .ptr b4 0 0∧F 5 = .ptr b5 0 0∧F 33 = .sl m.cm 3 (m.crs.map GV)∧F 34 = .int .i64 m.crs.length∧F 35 = .int .i64 (i:Nat)∧Em h H m b2 b3 b4 b5 (nlV po (zP m)) (nlV co ((zC m).take i)) v3∧NL H0.length H po pb (zP m)∧NL H0.length H co cbs ((zC m).take i)∧outG 1 (fun _:Pt=>GH) H0 m.pts v3 H∧(∀ b,NLB co cbs ((zC m).take i) b→¬ NLB po pb (zP m) b∧¬ isB v3 b)∧H0.length≤H.length) m.crs.length
    ⟨0,0,[],by simp,by simp -implicitDefEqProofs only[AA,↓reduceIte,jB,f1],by simp -implicitDefEqProofs only[AA,↓reduceIte,jB,f2],by simp -implicitDefEqProofs only[AA,↓reduceIte,jB,f3],by simp -implicitDefEqProofs only[AA,↓reduceIte,jB,f4],by simp -implicitDefEqProofs only[AA,↓reduceIte,jB,f5],by simp -implicitDefEqProofs only[AA,↓reduceIte,jB],by simp -implicitDefEqProofs only[AA,↓reduceIte,jB],by simp -implicitDefEqProofs only[AA,↓reduceIte]; rfl,by rw[qB]; exact E,N,by rw[qB]; exact NL.nil _ _ _,ho3,(fun b hb=>by
     rcases hb with⟨q,_⟩ | q
     ·exact absurd rfl q
     ·cases q),hle⟩ ?_
   clear f1 f2 f3 f4 f5 E N ho3 hdis hle
   rintro n F H ⟨i,co,cbs,hi,f1,f2,f3,f4,f5,f33,f34,f35,E,NP,N,ho3,hdis,hle⟩
   simp -implicitDefEqProofs only[vQ,jR,jJ,jO,jQ,BD,↓reduceIte,enP,f34,f35]
   refine CU (fun hc => ?_) (fun hc => ?_)
   ·have hi':i < m.crs.length:=by simpa using hc
    have hcg:=hg.crs _ (jP hi')
    have hfs:=hg.full.szs hcg.here
    have hsl:=LG m m.crs[i].pts
    have hfour:=hcg.four
    have hpr:=hcg.prod
    have hC:=AQL m i hi'
    have hzl:=RF (H8 (szs m m.crs[i].pts))
    have htl:((zC m).take i).length≤1048576:=by rw[zJ,AA7]; omega
    simp -implicitDefEqProofs only[vQ,jR,jJ,jO,jQ,BD,↓reduceIte,jB,enP,P5,jT,f33,f35,DN hi',FU AAZ XV KH hi',AUX,AST _ _ [.str ⟨#[]⟩,.sl .nil 0 [],.sl .nil 0 []] rfl]
    have hl1:(H++[ABlk.live 3 [GV m.crs[i]]]).length=H.length+1:=by simp
    have E1:=E.app [.live 3 [GV m.crs[i]]]
    have N1:=N.app [.live 3 [GV m.crs[i]]]
    have NP1:=NP.app [.live 3 [GV m.crs[i]]]
    have ho1:=ho3.app [.live 3 [GV m.crs[i]]]
    have gc1:=CZ H (.live 3 [GV m.crs[i]])
    generalize H++[ABlk.live 3 [GV m.crs[i]]]=Ha at hl1 E1 N1 NP1 ho1 gc1 ⊢
    generalize hpn:H8 (szs m m.crs[i].pts)=pn at hC hzl hpr
    have N2:=(N1.app [.live 1 ((zeros pn).map qencI)]).app [.live 1 [[.own Ha.length 0 pn]]]
    have NP2:=(NP1.app [.live 1 ((zeros pn).map qencI)]).app [.live 1 [[.own Ha.length 0 pn]]]
    have E2:=(E1.app [.live 1 ((zeros pn).map qencI)]).app [.live 1 [[.own Ha.length 0 pn]]]
    have ho2:=(ho1.app [.live 1 ((zeros pn).map qencI)]).app [.live 1 [[.own Ha.length 0 pn]]]
    have gb:=CX (x:=ABlk.live 1 [[.own Ha.length 0 pn]]) (CZ Ha (ABlk.live 1 ((zeros pn).map qencI)))
    have gt:=CZ (Ha++[ABlk.live 1 ((zeros pn).map qencI)]) (ABlk.live 1 [[.own Ha.length 0 pn]])
    have hl2:(Ha++[ABlk.live 1 ((zeros pn).map qencI)]++[ABlk.live 1 [[.own Ha.length 0 pn]]]).length=Ha.length+2:=by simp
    refine EY (by kernel_rfl) ?_
    simp -implicitDefEqProofs only[vQ,jR,jJ,jO,jQ,wK,NI,KJ,↓reduceIte,jB,jM,enP,N8,f1,f4,E1.l4',ldM E1.gm,ldC gc1]
    refine⟨_,YS G m _ _ hcg.here (by omega),?_⟩
    try simp -implicitDefEqProofs only[]
    refine⟨_,ZY G _ _ _ (fun n hn=>(hfs n hn).2) (by omega),?_⟩
    rw[hpn]
    try simp -implicitDefEqProofs only[vQ,jR,jJ,jO,jQ,wK,IP,↓reduceIte,jB,jM,enP,mkI _ _ (show pn≤1048576 by omega),ADG]
    generalize Ha++[ABlk.live 1 ((zeros pn).map qencI)]++[ABlk.live 1 [[.own Ha.length 0 pn]]]=Hb at N2 NP2 E2 ho2 gb gt hl2 ⊢
    generalize (Ha++[ABlk.live 1 ((zeros pn).map qencI)]).length=tb at gt ⊢
    obtain⟨H2,hap,N3,hk,hl3,hx3⟩:=N2.snoc gb (by omega) (by omega) (fun q=>by have:=N.mem_lt q; omega) (fun q e=>by have:=N.top_lt q; omega) (by rw[hzl]; exact gt) htl
    rw[← hC] at N3 hap
    have hne:(zC m).take (i+1)≠[]:=by rw[hC]; simp
    have E3:=E2.keep hk (fun b hb=>by
     obtain⟨q,rfl⟩:=AAE hb
     have:=N.lo' q; omega) (hx3 h (by omega))
    rw[PY _ hne] at hap
    refine KQ hap ?_
    have E4:=E3.set4 (nlV po (zP m)) (.own Hb.length 0 ((zC m).take (i+1)).length)
    have ho4:=(ho2.keepA hk (fun b hb hb'=>(hdis b (ADN hb')).2 hb)).setB (b:=b4) (by omega) (.live 4 [I9 (nlV po (zP m)) (.own Hb.length 0 ((zC m).take (i+1)).length)])
    have N4:NL H0.length (H2.set b4 (.live 4 [I9 (nlV po (zP m)) (.own Hb.length 0 ((zC m).take (i+1)).length)])) Hb.length (cbs++[Ha.length]) ((zC m).take (i+1)):=N3.keep fun b x hb hg=>CV hg (by have:=N3.lt hb; omega)
    have NP4:NL H0.length (H2.set b4 (.live 4 [I9 (nlV po (zP m)) (.own Hb.length 0 ((zC m).take (i+1)).length)])) po pb (zP m):=NP2.keep fun b x hb hg=>CV (hk b x hg (fun q=>(hdis b (ADN q)).1 hb)) (by have:=NP.lt hb; omega)
    simp -implicitDefEqProofs only[vQ,jR,jJ,jO,jQ,BD,↓reduceIte,jB,jM,enP,N8,jT,f4,E3.s4',f35,wrap_succ (show i < 9223372036854775807 by omega)]
    have hl4:(H2.set b4 (.live 4 [I9 (nlV po (zP m)) (.own Hb.length 0 ((zC m).take (i+1)).length)])).length=H2.length:=by simp
    generalize H2.set b4 (.live 4 [I9 (nlV po (zP m)) (.own Hb.length 0 ((zC m).take (i+1)).length)])=H4 at E4 ho4 N4 NP4 hl4 ⊢
    rw[← PY Hb.length hne] at E4
    exact⟨n - 1,by omega,i+1,Hb.length,_,by omega,by trivial,by trivial,by trivial,by trivial,by trivial,by trivial,by trivial,by trivial,E4,NP4,N4,ho4,fun b hb=>by
     rw[hC] at hb
     rcases AGE (o:=co) hb with rfl | hb | rfl
     ·exact⟨fun q=>by have:=NP.lt q; omega,fun q=>by have:=ho3.lt q; omega⟩
     ·exact hdis _ hb
     ·exact⟨fun q=>by have:=NP.lt q; omega,fun q=>by have:=ho3.lt q; omega⟩,by omega⟩
   ·have hi' : ¬ i < m.crs.length:=by simpa using hc
    rw[jW (by rw[AA7]; omega)] at N E hdis
    simp -implicitDefEqProofs only[vQ,↓reduceIte,jB]
    exact⟨co,cbs,f2,f3,f4,f5,E,⟨NP,N,fun b h1 h2=>(hdis b h2).1 h1⟩,ho3⟩
  ·rintro F' H' ⟨co,cbs,g2,g3,g4,g5,E',N,q3⟩
   simp -implicitDefEqProofs only[vQ,↓reduceIte]
   have p2:=E'.o2; have p3:=E'.o3; have p4:=E'.o4; have p5:=E'.o5
   refine XT [(5,2)] (by kernel_rfl) ?_ ?_
   ·simp -implicitDefEqProofs only[g2,g5,XU,AA1,ZV,and_true]
    omega
   simp -implicitDefEqProofs only[vQ,jR,jJ,jO,jQ,↓reduceIte,jB,jM,enP,jT,g2,g3,g4,g5,KW E'.g4 rfl,QC E'.g5 rfl,AHA E'.g2 rfl (MB _ _) (MB _ _),AKU (CV E'.g3 (show b3≠b2 by omega)) rfl q3.leaf]
   rw[A4I (ba:=b2) (bb:=b3) (by simp -implicitDefEqProofs only[AA,↓reduceIte,jB,g2]) (by simp -implicitDefEqProofs only[AA,↓reduceIte,jB,g3]) (KW (CV (EG E'.g2) (show b2≠b3 by omega)) rfl) (QC (EG (CV E'.g3 (show b3≠b2 by omega))) rfl)]
   exact⟨(E'.hx.set (by omega) _).set (by omega) _,po,pb,co,cbs,v3,rfl,(N.keep (H':=(H'.set b2 (.live 4 [I9 (nlV po (zP m)) (nlV co (zC m))])).set b3 (.live 1 [[v3]])) fun b x hb _ hg=>CV (CV hg (by omega)) (by omega)).base (by omega),((q3.setB (b:=b2) (by omega) _).setB (b:=b3) (by omega) _).base (by omega)⟩
set_option maxHeartbeats 4000000 in
theorem APE (G:Nat→AV)(m:Mo)(hm:MoOk m)(hg:Cov.Good m)(h:Hp):ACalls (En G) 119 [.agg (EE m)] h fun v H=>ext h H∧∃ po pb co cbs,v = .agg (I9 (nlV po (zP m)) (nlV co (zC m)))∧NC h.length H po pb co cbs (zP m) (zC m):=by
 have hm1:=hm.np
 have hm2:=hm.nc
 have hnum:=hg.num
 refine MJ (H:=hint [23,24,25,43,44,45] []) (enM G) Tryz.func119 rfl (by kernel_rfl) (by kernel_rfl) (jI (by kernel_rfl)) ?_
 show awp _ _ _ _ _ (EM _ [.cell 2 81] _)
 have E:=Er.mk' h m
 simp -implicitDefEqProofs only[vQ,jR,jJ,jO,jQ,BD,↓reduceIte,jB,enP,jT,bxM,PU,VY,AVO]
 generalize h++[ABlk.live 2 [EE m]]++[ABlk.live 4 [GG]]++[ABlk.live 4 [GG]]=H0 at E ⊢
 generalize (h++[ABlk.live 2 [EE m]]++[ABlk.live 4 [GG]]).length=b3 at E ⊢
 generalize (h++[ABlk.live 2 [EE m]]).length=b2 at E ⊢
 have o2:=E.o2; have o3:=E.o3
 have hlt0:=E.lt
 refine GZ 0 (fun F H => ∃ po pb,F 1 = .ptr h.length 0 0∧F 2 = .ptr b2 0 0∧F 3 = .ptr b3 0 0∧Er h H m b2 b3 (nlV po (zP m)) (.sl .nil 0 [])∧NL H0.length H po pb (zP m)∧H0.length≤H.length) (fun _ _=>False) ?_ ?_ (fun _ _ hh=>hh.elim)
 ·refine DL (fun n F H => ∃ i po pb,n+i=m.pts.length∧F 1 = .ptr h.length 0 0∧F 2 = .ptr b2 0 0∧F 3 = .ptr b3 0 0∧F 4 = .int .i64 (i:Nat)∧Er h H m b2 b3 (nlV po ((zP m).take i)) (.sl .nil 0 [])∧NL H0.length H po pb ((zP m).take i)∧H0.length≤H.length) m.pts.length
   ⟨0,0,[],by simp,by simp -implicitDefEqProofs only[AA,↓reduceIte,jB],by simp -implicitDefEqProofs only[AA,↓reduceIte,jB],by simp -implicitDefEqProofs only[AA,↓reduceIte,jB],by simp -implicitDefEqProofs only[AA,↓reduceIte]; rfl,by rw[qB]; exact E,by rw[qB]; exact NL.nil _ _ _,jL _⟩ ?_
  clear E
  rintro n F H ⟨i,po,pb,hi,f1,f2,f3,f4,E,N,hle⟩
  simp -implicitDefEqProofs only[vQ,jR,jJ,jO,jQ,BD,↓reduceIte,jB,enP,OE,GU,f1,f4,E.m0,jH]
  refine CU (fun hc => ?_) (fun hc => ?_)
  ·have hi':i < m.pts.length:=by simpa using hc
   have h64:=(hg.full _ (jP hi')).2
   have hP:=AQJ m i hi'
   have hzl:=RF m.pts[i].bins.length
   have htl:((zP m).take i).length≤1048576:=by rw[zJ,AA6]; omega
   have N2:=(N.app [.live 1 ((zeros m.pts[i].bins.length).map qencI)]).app [.live 1 [[.own H.length 0 m.pts[i].bins.length]]]
   have E2:=E.keep (u := .bool true) (H':=H++[ABlk.live 1 ((zeros m.pts[i].bins.length).map qencI)]++[ABlk.live 1 [[.own H.length 0 m.pts[i].bins.length]]]) (fun b x hb _=>F7 (F7 hb)) (fun b hb=>hb.elim) (fun q=>(q.app _).app _)
   have gb:=CX (x:=ABlk.live 1 [[.own H.length 0 m.pts[i].bins.length]]) (CZ H (ABlk.live 1 ((zeros m.pts[i].bins.length).map qencI)))
   have gt:=CZ (H++[ABlk.live 1 ((zeros m.pts[i].bins.length).map qencI)]) (ABlk.live 1 [[.own H.length 0 m.pts[i].bins.length]])
   have hl2:(H++[ABlk.live 1 ((zeros m.pts[i].bins.length).map qencI)]++[ABlk.live 1 [[.own H.length 0 m.pts[i].bins.length]]]).length=H.length+2:=by simp
   simp -implicitDefEqProofs only[vQ]
   refine EY (by kernel_rfl) ?_
   simp -implicitDefEqProofs only[vQ,jR,jJ,jO,jQ,wK,IP,NI,KJ,↓reduceIte,jB,jM,enP,PG,GU,PE,IE,OO,f1,f3,f4,E.l3,E.m0,DN hi',CY RD hi',NG,jH,mkI _ _ (show m.pts[i].bins.length≤1048576 by omega),ADG]
   generalize H++[ABlk.live 1 ((zeros m.pts[i].bins.length).map qencI)]++[ABlk.live 1 [[.own H.length 0 m.pts[i].bins.length]]]=Hb at N2 E2 gb gt hl2 ⊢
   generalize (H++[ABlk.live 1 ((zeros m.pts[i].bins.length).map qencI)]).length=tb at gt ⊢
   obtain⟨H2,hap,N3,hk,hl3,hx3⟩:=N2.snoc gb (by omega) (by omega) (fun q=>by have:=N.mem_lt q; omega) (fun q e=>by have:=N.top_lt q; omega) (by rw[hzl]; exact gt) htl
   rw[← hP] at N3 hap
   have hne:(zP m).take (i+1)≠[]:=by rw[hP]; simp
   have E3:=E2.keep hk (fun b hb=>by
    obtain⟨q,rfl⟩:=AAE hb
    have:=N.lo' q; omega) (hx3 h (by omega))
   rw[PY _ hne] at hap
   refine KQ hap ?_
   have E4:=E3.set3 (.own Hb.length 0 ((zP m).take (i+1)).length) (.sl .nil 0 [])
   have N4:NL H0.length (H2.set b3 (.live 4 [I9 (.own Hb.length 0 ((zP m).take (i+1)).length) (.sl .nil 0 [])])) Hb.length (pb++[H.length]) ((zP m).take (i+1)):=N3.keep fun b x hb hg=>CV hg (by have:=N3.lt hb; omega)
   have hl4:(H2.set b3 (.live 4 [I9 (.own Hb.length 0 ((zP m).take (i+1)).length) (.sl .nil 0 [])])).length=H2.length:=by simp
   simp -implicitDefEqProofs only[vQ,jR,jJ,jO,jQ,BD,↓reduceIte,jB,jM,enP,OO,jT,f3,E3.s3,f4,wrap_succ (show i < 9223372036854775807 by omega)]
   generalize H2.set b3 (.live 4 [I9 (.own Hb.length 0 ((zP m).take (i+1)).length) (.sl .nil 0 [])])=H4 at E4 N4 hl4 ⊢
   rw[← PY _ hne] at E4
   exact⟨n - 1,by omega,i+1,Hb.length,_,by omega,by trivial,by trivial,by trivial,by trivial,E4,N4,by omega⟩
  ·have hi' : ¬ i < m.pts.length:=by simpa using hc
   rw[jW (by rw[AA6]; omega)] at N E
   simp -implicitDefEqProofs only[vQ,↓reduceIte,jB]
   exact⟨po,pb,f1,f2,f3,E,N,hle⟩
 ·rintro F H ⟨po,pb,f1,f2,f3,E,N,hle⟩
  simp -implicitDefEqProofs only[vQ,jR,jJ,jO,jQ,BD,↓reduceIte]
  refine GZ 2 (fun F H => ∃ co cbs,F 2 = .ptr b2 0 0∧F 3 = .ptr b3 0 0∧Er h H m b2 b3 (nlV po (zP m)) (nlV co (zC m))∧NC H0.length H po pb co cbs (zP m) (zC m)) (fun _ _=>False) ?_ ?_ (fun _ _ hh=>hh.elim)
  ·refine DL (fun n F H => ∃ i co cbs,n+i=m.crs.length∧F 1 = .ptr h.length 0 0∧F 2 = .ptr b2 0 0∧F 3 = .ptr b3 0 0∧F 5 = .int .i64 (i:Nat)∧Er h H m b2 b3 (nlV po (zP m)) (nlV co ((zC m).take i))∧NL H0.length H po pb (zP m)∧NL H0.length H co cbs ((zC m).take i)∧(∀ b,NLB co cbs ((zC m).take i) b→¬ NLB po pb (zP m) b)∧H0.length≤H.length) m.crs.length
    ⟨0,0,[],by simp,by simp -implicitDefEqProofs only[AA,↓reduceIte,jB,f1],by simp -implicitDefEqProofs only[AA,↓reduceIte,jB,f2],by simp -implicitDefEqProofs only[AA,↓reduceIte,jB,f3],by simp -implicitDefEqProofs only[AA,↓reduceIte]; rfl,by rw[qB]; exact E,N,by rw[qB]; exact NL.nil _ _ _,(fun b hb=>by
     rcases hb with⟨q,_⟩ | q
     ·exact absurd rfl q
     ·cases q),hle⟩ ?_
   clear f1 f2 f3 E N hle
   rintro n F H ⟨i,co,cbs,hi,f1,f2,f3,f5,E,NP,N,hdis,hle⟩
   simp -implicitDefEqProofs only[vQ,jR,jJ,jO,jQ,BD,↓reduceIte,jB,enP,UU,IV,f1,f5,E.m1,jH]
   refine CU (fun hc => ?_) (fun hc => ?_)
   ·have hi':i < m.crs.length:=by simpa using hc
    have hcg:=hg.crs _ (jP hi')
    have hpr:=hcg.prod
    have hfour:=hcg.four
    have hmin:min ((H8 (szs m m.crs[i].pts):Nat):Int) 1000=((H8 (szs m m.crs[i].pts):Nat):Int):=by omega
    have hcall:=XQ G m m.crs[i] H hcg.here hg.full (by omega)
    rw[hmin] at hcall
    have hC:=AQL m i hi'
    have hzl:=RF (H8 (szs m m.crs[i].pts))
    have htl:((zC m).take i).length≤1048576:=by rw[zJ,AA7]; omega
    generalize H8 (szs m m.crs[i].pts)=pn at hC hzl hpr hcall
    have N2:=(N.app [.live 1 ((zeros pn).map qencI)]).app [.live 1 [[.own H.length 0 pn]]]
    have NP2:=(NP.app [.live 1 ((zeros pn).map qencI)]).app [.live 1 [[.own H.length 0 pn]]]
    have E2:=E.keep (u := .bool true) (H':=H++[ABlk.live 1 ((zeros pn).map qencI)]++[ABlk.live 1 [[.own H.length 0 pn]]]) (fun b x hb _=>F7 (F7 hb)) (fun b hb=>hb.elim) (fun q=>(q.app _).app _)
    have gb:=CX (x:=ABlk.live 1 [[.own H.length 0 pn]]) (CZ H (ABlk.live 1 ((zeros pn).map qencI)))
    have gt:=CZ (H++[ABlk.live 1 ((zeros pn).map qencI)]) (ABlk.live 1 [[.own H.length 0 pn]])
    have hl2:(H++[ABlk.live 1 ((zeros pn).map qencI)]++[ABlk.live 1 [[.own H.length 0 pn]]]).length=H.length+2:=by simp
    simp -implicitDefEqProofs only[vQ]
    refine EY (by kernel_rfl) ?_
    simp -implicitDefEqProofs only[vQ,jR,jJ,jO,jQ,wK,NI,KJ,↓reduceIte,jB,jM,enP,P5,IV,N8,f1,f3,f5,E.l3',E.m1,ldM E.gm,DN hi',FU AAZ XV KH hi']
    refine⟨_,hcall,?_⟩
    try simp -implicitDefEqProofs only[vQ,jR,jJ,jO,jQ,wK,IP,↓reduceIte,jB,jM,enP,mkI _ _ (show pn≤1048576 by omega),ADG]
    generalize H++[ABlk.live 1 ((zeros pn).map qencI)]++[ABlk.live 1 [[.own H.length 0 pn]]]=Hb at N2 NP2 E2 gb gt hl2 ⊢
    generalize (H++[ABlk.live 1 ((zeros pn).map qencI)]).length=tb at gt ⊢
    obtain⟨H2,hap,N3,hk,hl3,hx3⟩:=N2.snoc gb (by omega) (by omega) (fun q=>by have:=N.mem_lt q; omega) (fun q e=>by have:=N.top_lt q; omega) (by rw[hzl]; exact gt) htl
    rw[← hC] at N3 hap
    have hne:(zC m).take (i+1)≠[]:=by rw[hC]; simp
    have E3:=E2.keep hk (fun b hb=>by
     obtain⟨q,rfl⟩:=AAE hb
     have:=N.lo' q; omega) (hx3 h (by omega))
    rw[PY _ hne] at hap
    refine KQ hap ?_
    have E4:=E3.set3 (nlV po (zP m)) (.own Hb.length 0 ((zC m).take (i+1)).length)
    have N4:NL H0.length (H2.set b3 (.live 4 [I9 (nlV po (zP m)) (.own Hb.length 0 ((zC m).take (i+1)).length)])) Hb.length (cbs++[H.length]) ((zC m).take (i+1)):=N3.keep fun b x hb hg=>CV hg (by have:=N3.lt hb; omega)
    have NP4:NL H0.length (H2.set b3 (.live 4 [I9 (nlV po (zP m)) (.own Hb.length 0 ((zC m).take (i+1)).length)])) po pb (zP m):=NP2.keep fun b x hb hg=>CV (hk b x hg (fun q=>hdis b (ADN q) hb)) (by have:=NP.lt hb; omega)
    simp -implicitDefEqProofs only[vQ,jR,jJ,jO,jQ,BD,↓reduceIte,jB,jM,enP,N8,jT,f3,E3.s3',f5,wrap_succ (show i < 9223372036854775807 by omega)]
    have hl4:(H2.set b3 (.live 4 [I9 (nlV po (zP m)) (.own Hb.length 0 ((zC m).take (i+1)).length)])).length=H2.length:=by simp
    generalize H2.set b3 (.live 4 [I9 (nlV po (zP m)) (.own Hb.length 0 ((zC m).take (i+1)).length)])=H4 at E4 N4 NP4 hl4 ⊢
    rw[← PY Hb.length hne] at E4
    exact⟨n - 1,by omega,i+1,Hb.length,_,by omega,by trivial,by trivial,by trivial,by trivial,E4,NP4,N4,(fun b hb=>by
     rw[hC] at hb
     rcases AGE (o:=co) hb with rfl | hb | rfl
     ·exact fun q=>by have:=NP.lt q; omega
     ·exact hdis _ hb
     ·exact fun q=>by have:=NP.lt q; omega),by omega⟩
   ·have hi' : ¬ i < m.crs.length:=by simpa using hc
    rw[jW (by rw[AA7]; omega)] at N E hdis
    simp -implicitDefEqProofs only[vQ,↓reduceIte,jB]
    exact⟨co,cbs,f2,f3,E,⟨NP,N,fun b h1 h2=>hdis b h2 h1⟩⟩
  ·rintro F' H' ⟨co,cbs,g2,g3,E',N⟩
   have hp:=E'.o2; have hq:=E'.o3
   simp -implicitDefEqProofs only[vQ,jR,jJ,jO,jQ,BD,↓reduceIte,jB,enP,jT,g2,g3,KW E'.g3 rfl,AHA E'.g2 rfl (MB _ _) (MB _ _)]
   rw[Y7 (b:=b2) (by simp -implicitDefEqProofs only[AA,↓reduceIte,jB,g2]) (KW (EG E'.g2) rfl)]
   exact⟨E'.hx.set (by omega) _,po,pb,co,cbs,rfl,(N.keep (H':=H'.set b2 (.live 4 [I9 (nlV po (zP m)) (nlV co (zC m))])) fun b x hb _ hg=>CV hg (by omega)).base (by omega)⟩
theorem A38 (H0:Hp){v1 v2 v3:AV}(h1:v1.leaf=true)(h2:v2.leaf=true)(h3:v3.leaf=true) :
  FP Tryz.prog (H0++[ABlk.live 4 [GG]]++[ABlk.live 1 [GH]]) 81 (.ptr H0.length 0 0) (.agg (I9 v1 v2))=some ((H0++[ABlk.live 4 [GG]]++[ABlk.live 1 [GH]]).set H0.length (ABlk.live 4 [I9 v1 v2])) ∧
  FP Tryz.prog ((H0++[ABlk.live 4 [GG]]++[ABlk.live 1 [GH]]).set H0.length (ABlk.live 4 [I9 v1 v2])) 120 (.ptr (H0++[ABlk.live 4 [GG]]).length 0 0) (.agg [v3])=some (((H0++[ABlk.live 4 [GG]]++[ABlk.live 1 [GH]]).set H0.length (ABlk.live 4 [I9 v1 v2])).set (H0++[ABlk.live 4 [GG]]).length (ABlk.live 1 [[v3]])) ∧
  (((H0++[ABlk.live 4 [GG]]++[ABlk.live 1 [GH]]).set H0.length (ABlk.live 4 [I9 v1 v2])).set (H0++[ABlk.live 4 [GG]]).length (ABlk.live 1 [[v3]]))[H0.length]? = some (ABlk.live 4 [I9 v1 v2]) ∧
  (((H0++[ABlk.live 4 [GG]]++[ABlk.live 1 [GH]]).set H0.length (ABlk.live 4 [I9 v1 v2])).set (H0++[ABlk.live 4 [GG]]).length (ABlk.live 1 [[v3]]))[(H0++[ABlk.live 4 [GG]]).length]? = some (ABlk.live 1 [[v3]]) ∧
  ext H0 (((H0++[ABlk.live 4 [GG]]++[ABlk.live 1 [GH]]).set H0.length (ABlk.live 4 [I9 v1 v2])).set (H0++[ABlk.live 4 [GG]]).length (ABlk.live 1 [[v3]])) :=
 ⟨AHA (CX (CZ _ _)) rfl h1 h2,AKU (CV (CZ _ _) (by simp)) rfl h3,CV (EG (CX (CZ _ _))) (by simp),EG (CV (CZ _ _) (by simp)),((((ext.rfl' H0).app _).app _).set (jL _) _).set (by simp) _⟩
theorem NC.ext {n0:Nat}{H H':Hp}{po:Nat}{pb:List Nat}{co:Nat}{cbs:List Nat}{P C:List (List Int)}(N:NC n0 H po pb co cbs P C)(hx:Sm.ext H H'):NC n0 H' po pb co cbs P C:=N.keep fun _ _ _ _ hg=>FD hx hg
theorem outG.ext {α:Type}{k:Nat}{f:α→List AV}{h H H':Hp}{ys:List α}{v:AV}(ho:outG k f h ys v H)(hx:Sm.ext H H'):outG k f h ys v H':=by
 obtain⟨y,rfl⟩:=hx
 exact ho.app y
def EmQ (h:Hp)(m:Mo)(v:AV)(H:Hp):Prop:=ext h H∧((FX m≠0∧v = .tup [.agg GG,.agg GH,.int .i64 (FX m)]) ∨
 (FX m=0∧∃ po pb co cbs v3,v = .tup [.agg (I9 (nlV po (zP m)) (nlV co (zC m))),.agg [v3],.int .i64 0]∧EmO h H m po pb co cbs v3))
set_option maxHeartbeats 1000000 in
theorem AU4 (G:Nat→AV)(hG:GOk G)(m:Mo)(hm:MoOk m)(h:Hp):ACalls (En G) 75 [.agg (EE m)] h (EmQ h m):=by
 refine acN Tryz.func75 rfl ?_
 show awp _ _ _ _ _ (EM _ [.cell 2 81,.cell 3 120,.tmp 4] _)
 unfold EmQ
 have E:=Ee.mk' h m
 simp -implicitDefEqProofs only[vQ,BD,↓reduceIte,jB,enP,bxM,PU,AC5]
 generalize h++[ABlk.live 2 [EE m]]++[ABlk.live 4 [GG]]++[ABlk.live 1 [GH]]=H0 at E ⊢
 generalize (h++[ABlk.live 2 [EE m]]++[ABlk.live 4 [GG]]).length=b3 at E ⊢
 generalize (h++[ABlk.live 2 [EE m]]).length=b2 at E ⊢
 have o2:=E.o2; have o3:=E.o3; have hlt:=E.lt
 simp -implicitDefEqProofs only[vQ,BD,↓reduceIte,ldM E.gm]
 refine(AEN G hG m hm _).use ?_
 cases hb:(FX m == 0)
 ·have h0:FX m≠0:=by simpa using hb
  simp -implicitDefEqProofs only[vQ,BD,↓reduceIte,jB,enP,jT,bne,hb,VY,AF1,stZ E.g2 rfl,ADY (CV E.g3 (show b3≠b2 by omega)) rfl]
  rw[XO (ba:=b2) (bb:=b3) (by simp -implicitDefEqProofs only[AA,↓reduceIte,jB]) (by simp -implicitDefEqProofs only[AA,↓reduceIte,jB]) (KW (CV (EG E.g2) (show b2≠b3 by omega)) rfl) (QC (EG (CV E.g3 (show b3≠b2 by omega))) rfl)]
  exact⟨(E.hx.set (by omega) _).set (by omega) _,.inl ⟨h0,by simp -implicitDefEqProofs only[AA,↓reduceIte]⟩⟩
 ·have h0:FX m=0:=by simpa using hb
  have hg:=NY h0
  simp -implicitDefEqProofs only[vQ,BD,↓reduceIte,jB,jU,enP,bne,hb,ldM E.gm]
  refine(AUA G m hm hg _).mono ?_
  rintro v H1 ⟨hx1,po,pb,co,cbs,v3,rfl,EO⟩
  obtain⟨s1,s2,g6,g7,hx5⟩:=A38 H1 (MB po (zP m)) (MB co (zC m)) EO.o3.leaf
  have g2:=FD hx5 (FD hx1 E.g2)
  have g3:=FD hx5 (FD hx1 E.g3)
  have hx:=(E.hx.trans hx1).trans hx5
  have hle1:=hx1.le
  have h7:b2 < (H1++[ABlk.live 4 [GG]]).length:=by simp; omega
  have N5:=EO.nc.ext hx5
  have q5:=outG.ext EO.o3 hx5
  simp -implicitDefEqProofs only[vQ,zB,zD,BD,↓reduceIte,jB,enP,jT,PU,AC5,s1,s2]
  generalize ((H1++[ABlk.live 4 [GG]]++[ABlk.live 1 [GH]]).set H1.length (ABlk.live 4 [I9 (nlV po (zP m)) (nlV co (zC m))])).set (H1++[ABlk.live 4 [GG]]).length (ABlk.live 1 [[v3]])=H5 at g6 g7 g2 g3 hx N5 q5 ⊢
  generalize (H1++[ABlk.live 4 [GG]]).length=b7 at g7 h7 ⊢
  refine XT [(7,2)] (by kernel_rfl) ?_ ?_
  ·simp -implicitDefEqProofs only[AA,↓reduceIte,jB,XU,AA1,ZV,and_true]
   omega
  simp -implicitDefEqProofs only[vQ,↓reduceIte,jB,jM,enP,jT,KW g6 rfl,QC g7 rfl,AHA g2 rfl (MB po (zP m)) (MB co (zC m)),AKU (CV g3 (show b3≠b2 by omega)) rfl q5.leaf]
  rw[XO (ba:=b2) (bb:=b3) (by simp -implicitDefEqProofs only[AA,↓reduceIte,jB]) (by simp -implicitDefEqProofs only[AA,↓reduceIte,jB]) (KW (CV (EG g2) (show b2≠b3 by omega)) rfl) (QC (EG (CV g3 (show b3≠b2 by omega))) rfl)]
  have hhl:=E.hx.le
  refine⟨(hx.set (by omega) _).set (by omega) _,.inr ⟨h0,po,pb,co,cbs,v3,by simp -implicitDefEqProofs only[AA,↓reduceIte],?_,?_⟩⟩
  ·exact(N5.keep (H':=(H5.set b2 (.live 4 [I9 (nlV po (zP m)) (nlV co (zC m))])).set b3 (.live 1 [[v3]])) fun b x hb _ hg=>CV (CV hg (by omega)) (by omega)).base hhl
  ·exact((q5.setB (b:=b2) (by omega) _).setB (b:=b3) (by omega) _).base hhl
structure St where
 P:List (List Int)
 C:List (List Int)
 sam:Int
 ill:Int
 ls:List (List Int)
def VG (m:Mo)(s:St)(env:List Sg):Int:=KC PtR.err (OM m s.ls env)
def stp (m:Mo)(s:St)(env:List Sg):St:=⟨LW (OM m s.ls env) s.P,NK m ((OM m s.ls env).map PtR.hit) s.C,rz s.sam,if(OM m s.ls env).any PtR.bad=true then rz s.ill else s.ill,(OM m s.ls env).map PtR.next⟩
structure StOk (m:Mo) (s:St):Prop where
 sh:ShapeOk m s.P s.C
 ll:s.ls.length=m.pts.length
 l7 : ∀ l∈s.ls,l.length≤7
 sm:0≤s.sam∧s.sam≤1099511627776
 il:0≤s.ill∧s.ill≤1099511627776
theorem AV2 (p:Pt)(last:List Int)(l:List Sg):(ptE p last l).next.length≤7:=by
 have hn : ∀ v,(nextL last v).length≤7:=fun v=>by unfold nextL; rw[List.length_drop,qA]; simp; omega
 unfold ptE
 split
 ·simp
 ·split
  ·simp
  ·split
   ·exact hn _
   ·split
    ·exact hn _
    ·exact hn _
theorem ShapeOk.step {m:Mo}{P C:List (List Int)}(h:ShapeOk m P C){rs:List PtR}(hr:rs.length=m.pts.length)(hits:List (List Nat)):ShapeOk m (LW rs P) (NK m hits C):=by
 have h1:rs.length=P.length:=by rw[hr,h.pl]
 have h2:=h.cl
 have l1:=UK rs P h1
 have l2:=UM m hits C h2
 refine⟨by rw[l1]; exact h.pl,by rw[l2]; exact h2,fun i a b => ?_,fun i a b => ?_,AZU h.wp,AZV h.wc⟩
 ·rw[UL rs P i (by omega) (by omega),QG]; exact h.pe i (by omega) b
 ·rw[UN m hits C i b (by omega),rowC_len]; exact h.ce i (by omega) b
theorem StOk.step {m:Mo}{s:St}(h:StOk m s)(env:List Sg):StOk m (stp m s env):=by
 have hr:=UR m s.ls env h.ll
 refine⟨h.sh.step hr _,by simp [stp,hr],fun l hl => ?_,AQ5 h.sm,?_⟩
 ·obtain⟨r,hr,rfl⟩:=zL.1 hl
  obtain⟨p,hp,rfl⟩:=zL.1 hr
  exact AV2 _ _ _
 ·unfold stp
  dsimp only
  split
  ·exact AQ5 h.il
  ·exact h.il
def zS (m:Mo):St:=⟨zP m,zC m,0,0,jZ m.pts.length []⟩
theorem AKF (n:Nat):Wn (zeros n):=fun x hx=>by
 have:x=0:=by simpa [zeros] using (List.eq_of_mem_replicate hx)
 subst this; decide
theorem A2H (m:Mo):StOk m (zS m):=by
 refine⟨⟨AA6 m,AA7 m,fun i a b => ?_,fun i a b => ?_,fun xs hx => ?_,fun xs hx => ?_⟩,by simp [zS],fun l hl => ?_,⟨by show(0:Int)≤0; omega,by show(0:Int)≤1099511627776; omega⟩,⟨by show(0:Int)≤0; omega,by show(0:Int)≤1099511627776; omega⟩⟩
 ·simp [zS,zP,zeros]
 ·simp [zS,zC,zeros]
 ·obtain⟨p,_,rfl⟩:=zL.1 hx
  exact AKF _
 ·obtain⟨p,_,rfl⟩:=zL.1 hx
  exact AKF _
 ·rw[List.eq_of_mem_replicate hl]; simp
def TA (m:Mo):St→List (List Sg)→Int × St
 | s,[]=>(0,s)
 | s,e :: r=>if VG m s e≠0 then (VG m s e,s) else TA m (stp m s e) r
def QX (m:Mo)(l:List (List Sg)):Int:=if FX m=0 then (TA m (zS m) l).1 else FX m
def Q9 (P:List (List Int)):List Is:=P.map fun x=>⟨.any,x⟩
def cvS (s:St):Cvr:=⟨nm (Q9 s.P),Q9 s.P,nm (Q9 s.C),Q9 s.C,s.sam,s.ill⟩
def UO (m:Mo)(l:List (List Sg)):Cvr:=if FX m=0∧(TA m (zS m) l).1=0 then cvS (TA m (zS m) l).2 else zV
def cvW (s:St):List AV := [fzG 1 encL (Q9 s.P),fzG 1 encL (Q9 s.C),.int .i64 s.sam,.int .i64 s.ill]
theorem AX1 (s:St):CvR (.agg (cvW s)) (.agg (encV (cvS s))):=CvR.agg (CvRL.cons WY (CvRL.cons WY (CvRL.refl _)))
def AOG (m:Mo)(l:List (List Sg)):List AV:=if FX m=0∧(TA m (zS m) l).1=0 then cvW (TA m (zS m) l).2 else GG
theorem AZX (m:Mo)(l:List (List Sg)):CvR (.agg (AOG m l)) (.agg (encV (UO m l))):=by
 unfold AOG UO
 split
 ·exact AX1 _
 ·exact AU7
structure Ss where
 m:SM
 l:List Sg
def TQ (x:Ss):List AV := [.sl x.m 2 (x.l.map G8)]
theorem APD (x:Ss):(TQ x)[0]? = some (.sl x.m 2 (x.l.map G8)):=rfl
theorem APC {h H:Hp}(_:h.length≤H.length)(hg : ∀ (b:Nat) (x:ABlk),h[b]? = some x→H[b]? = some x):ext h H:=⟨H.drop h.length,by
 refine List.ext_getElem? fun i => ?_
 rcases Nat.lt_or_ge i h.length with hi | hi
 ·rw[List.getElem?_append_left hi,jS hi]; exact hg i _ (jS hi)
 ·rw[List.getElem?_append_right hi,List.getElem?_drop]; congr 1; omega⟩
theorem Fr1.ext {h0 h H:Hp}{cb tb:Nat}{pb cbs:List Nat}(hf:Fr1 h H cb tb pb cbs)(hx:Sm.ext h0 h)(h1:h0.length≤cb)(h2:h0.length≤tb)(h3 : ∀ b∈pb,h0.length≤b)(h4 : ∀ b∈cbs,h0.length≤b):Sm.ext h0 H :=
 APC (qG hx.le hf.le) fun b x hb=>by
  have hlt:=CJ hb
  exact hf.get b x (FD hx hb) (by omega) (by omega) (fun q=>by have:=h3 b q; omega) (fun q=>by have:=h4 b q; omega)
theorem AX2 (po:Nat)(P:List (List Int))(co:Nat)(C:List (List Int))(a b:Int):(cvR po P co C a b).all AV.leaf=true:=by
 simp [cvR,MB]; exact⟨rfl,rfl⟩
theorem A2L {H:Hp}{b:Nat}{row:List AV}{po:Nat}{P:List (List Int)}{co:Nat}{C:List (List Int)}{x y:Int}(hb:H[b]? = some (.live 4 [row]))(hr:row.length=4):FP Tryz.prog H 81 (.ptr b 0 0) (.agg (cvR po P co C x y))=some (H.set b (.live 4 [cvR po P co C x y])):=by
 rw[MK (cs:=cvR po P co C x y) (QS (AX2 _ _ _ _ _ _)) ASS hb (by rw[hr]; exact jL 4)]
 have:splice row 0 (cvR po P co C x y)=cvR po P co C x y:=by unfold splice; rw[qB,jV (by rw[hr]; exact jL 4)]; simp
 rw[this]
theorem AX6 {n0:Nat}{H:Hp}{po co:Nat}{pb cbs:List Nat}(s:St)(np:NL n0 H po pb s.P)(nc:NL n0 H co cbs s.C)(n d:Nat)(hn:n≤n0):IL n H (d+4) (.agg (cvR po s.P co s.C s.sam s.ill)) = .agg (cvW s):=by
 show AV.agg [IL n H (d+3) (nlV po s.P),IL n H (d+3) (nlV co s.C),.int .i64 s.sam,.int .i64 s.ill]=_
 rw[np.frz n d hn,nc.frz n d hn]; rfl
theorem AVI {h H:Hp}{m:Mo}{v3:AV}(o:outG 1 (fun _:Pt=>GH) h m.pts v3 H):TLs H v3 (jZ m.pts.length []):=by
 rcases o with⟨e,_⟩ | ⟨_,q,_,rfl,hq⟩
 ·rw[e]; exact .inl rfl
 ·refine .inr (.inr ⟨q,m.pts.map fun _=>GH,by simp,hq,?_⟩)
  rw[List.map_const']
  exact RowsL.nils _
set_option maxHeartbeats 4000000 in
theorem AY4 (G:Nat→AV)(hG:GOk G)(hT:VW G)(m:Mo)(hm:MoOk m)(l:List Ss)(s:SM)(h:Hp)(hl:l.length≤1048576)(he : ∀ x∈l,x.l.length≤1048576) :
  PCall (En G) 43 [.agg (EE m),.sl s 1 (l.map TQ)] h (.tup [.agg (encV (UO m (l.map Ss.l))),.int .i64 (QX m (l.map Ss.l))]):=by
 refine PCall.res (r := .tup [.agg (AOG m (l.map Ss.l)),.int .i64 (QX m (l.map Ss.l))]) ?_ (CvR.tup (CvRL.cons (AZX _ _) (CvRL.refl _)))
 refine ACalls.pure (R:=fun v H=>ext h H∧IL h.length H 5 v = .tup [.agg (AOG m (l.map Ss.l)),.int .i64 (QX m (l.map Ss.l))]) 5 ?_ (fun v H ⟨a,b⟩=>⟨a,b⟩)
 refine acN Tryz.func43 rfl ?_
 show awp _ _ _ _ _ (EM _ [.cell 4 81,.tmp 5] _)
 have gm:=CX (x:=ABlk.live 4 [GG]) (CZ h (ABlk.live 2 [EE m]))
 have g4:=CZ (h++[ABlk.live 2 [EE m]]) (ABlk.live 4 [GG])
 have hx:ext h (h++[ABlk.live 2 [EE m]]++[ABlk.live 4 [GG]]):=((ext.rfl' h).app _).app _
 have hb4:h.length < (h++[ABlk.live 2 [EE m]]).length:=by simp
 simp -implicitDefEqProofs only[vQ,BD,↓reduceIte,jB,enP,bxM,PU]
 generalize h++[ABlk.live 2 [EE m]]++[ABlk.live 4 [GG]]=H0 at gm g4 hx ⊢
 generalize (h++[ABlk.live 2 [EE m]]).length=b4 at g4 hb4 ⊢
 have hlt:=CJ g4
 simp -implicitDefEqProofs only[vQ,BD,↓reduceIte,ldM gm]
 refine(AU4 G hG m hm H0).mono ?_
 rintro v H1 ⟨hx1,⟨hne,rfl⟩ | ⟨h0,po,pb,co,cbs,v3,rfl,EO⟩⟩
 ·have hb:(FX m == 0)=false:=by simpa using hne
  obtain⟨s1,s2,g6,g7,hx5⟩:=A38 H1 (v1 := .sl .nil 0 []) (v2 := .sl .nil 0 []) (v3 := .sl .nil 0 []) rfl rfl rfl
  have s1':FP Tryz.prog (H1++[ABlk.live 4 [GG]]++[ABlk.live 1 [GH]]) 81 (.ptr H1.length 0 0) (.agg GG)=_:=s1
  have s2':FP Tryz.prog ((H1++[ABlk.live 4 [GG]]++[ABlk.live 1 [GH]]).set H1.length (ABlk.live 4 [I9 (.sl .nil 0 []) (.sl .nil 0 [])])) 120 (.ptr (H1++[ABlk.live 4 [GG]]).length 0 0) (.agg GH)=_:=s2
  have g4':=FD hx5 (FD hx1 g4)
  have hx':=(hx.trans hx1).trans hx5
  simp -implicitDefEqProofs only[vQ,zB,zD,BD,↓reduceIte,jB,enP,jT,PU,AC5,s1',s2',bne,hb,VY]
  generalize ((H1++[ABlk.live 4 [GG]]++[ABlk.live 1 [GH]]).set H1.length (ABlk.live 4 [I9 (.sl .nil 0 []) (.sl .nil 0 [])])).set (H1++[ABlk.live 4 [GG]]).length (ABlk.live 1 [[.sl .nil 0 []]])=H5 at g4' hx' ⊢
  simp -implicitDefEqProofs only[vQ,BD,↓reduceIte,stZ g4' rfl]
  rw[XP (ba:=b4) (by simp -implicitDefEqProofs only[AA,↓reduceIte,jB]) (KW (EG g4') rfl)]
  refine⟨hx'.set (by omega) _,?_⟩
  unfold AOG QX
  rw[if_neg (fun q=>hne q.1),if_neg hne]
  rfl
 have hg:=NY h0
 have hnp:m.pts.length≤16:=by have:=hg.num; omega
 obtain⟨s1,s2,g6,g7,hx5⟩:=A38 H1 (MB po (zP m)) (MB co (zC m)) EO.o3.leaf
 have gm5:=FD hx5 (FD hx1 gm)
 have g45:=FD hx5 (FD hx1 g4)
 have hx':=(hx.trans hx1).trans hx5
 have hle1:=hx1.le
 have N5:=EO.nc.ext hx5
 have q5:=AVI (outG.ext EO.o3 hx5)
 have hlb : ∀ b,NLB po pb (zP m) b∨NLB co cbs (zC m) b→b < H1.length:=fun b hb=>by
  rcases hb with hb | hb
  ·exact(EO.nc.np.lt hb).2
  ·exact(EO.nc.nc.lt hb).2
 have htl:(H1++[ABlk.live 4 [GG]]).length=H1.length+1:=by simp
 simp -implicitDefEqProofs only[vQ,zB,zD,BD,↓reduceIte,jB,jU,enP,AWP,jT,PU,AC5,s1,s2,bne,beq_self_eq_true,jH]
 generalize ((H1++[ABlk.live 4 [GG]]++[ABlk.live 1 [GH]]).set H1.length (ABlk.live 4 [I9 (nlV po (zP m)) (nlV co (zC m))])).set (H1++[ABlk.live 4 [GG]]).length (ABlk.live 1 [[v3]])=H5 at g6 g7 gm5 g45 hx' N5 q5 ⊢
 generalize (H1++[ABlk.live 4 [GG]]).length=tb at g7 htl ⊢
 generalize H1.length=cb at g6 hlb htl hle1 ⊢
 have S5:CS H0.length H5 cb tb po co pb cbs (zS m).P (zS m).C (zS m).sam (zS m).ill v3:=N5.cs g6 g7 (by omega) (fun b hb=>by have:=hlb b hb; omega)
 refine DL (fun n F H => ∃ k st v3,n+k=l.length∧F 2 = .ptr h.length 0 0∧F 4 = .ptr b4 0 0∧F 6 = .ptr cb 0 0∧F 7 = .ptr tb 0 0∧F 22 = .sl s 1 (l.map TQ)∧F 23 = .int .i64 (l.length:Nat)∧F 24 = .int .i64 (k:Nat)∧H[h.length]? = some (.live 2 [EE m])∧H[b4]? = some (.live 4 [GG]) ∧
   CS H0.length H cb tb po co pb cbs st.P st.C st.sam st.ill v3∧TLs H v3 st.ls∧StOk m st∧ext h H∧TA m (zS m) (l.map Ss.l)=TA m st ((l.drop k).map Ss.l)) l.length
  ⟨0,zS m,v3,by simp,by simp -implicitDefEqProofs only[AA,↓reduceIte,jB],by simp -implicitDefEqProofs only[AA,↓reduceIte,jB],by simp -implicitDefEqProofs only[AA,↓reduceIte,jB],by simp -implicitDefEqProofs only[AA,↓reduceIte,jB],by simp -implicitDefEqProofs only[AA,↓reduceIte,jB],by simp -implicitDefEqProofs only[AA,↓reduceIte,jB],by simp -implicitDefEqProofs only[AA,↓reduceIte] <;> rfl,gm5,g45,S5,q5,A2H m,hx',rfl⟩ ?_
 clear gm5 g45 S5 q5 hx' N5 g6 g7 s1 s2 hx5
 rintro n F H ⟨k,st,v3',hk,f2,f4,f6,f7,f22,f23,f24,gmH,g4H,S,T,hok,hxH,hrun⟩
 simp -implicitDefEqProofs only[vQ,BD,↓reduceIte,enP,f23,f24]
 refine CU (fun hc => ?_) (fun hc => ?_)
 ·have hk':k < l.length:=by simpa using hc
  rw[zK hk',jD] at hrun
  simp -implicitDefEqProofs only[vQ,BD,↓reduceIte,jB,enP,A4A,f22,f24,DN hk',CY A13 hk',APD,f2,ldM gmH,f6,f7]
  refine(AK4 G hG hT m hm hg S hok.sh st.ls hok.ll (fun x hx=>by have:=hok.l7 x hx; omega) T l[k].l l[k].m (by have:=he _ (jP hk'); omega) hok.sm hok.il).mono ?_
  intro v H' hQ
  unfold A4Y at hQ
  rcases hQ with⟨e,hne,hfst,rfl,hxe⟩ | ⟨hfst,rfl,lb,hlb2,glb,S',hFr⟩
  ·have hb:(e == 0)=false:=by simpa using hne
   have hse:VG m st l[k].l=e:=hfst
   have g4':=FD hxe g4H
   simp -implicitDefEqProofs only[vQ,BD,↓reduceIte,jB,enP,jT,bne,hb,VY,f4,stZ g4' rfl]
   rw[XP (ba:=b4) (by simp -implicitDefEqProofs only[AA,↓reduceIte,jB,f4]) (KW (EG g4') rfl)]
   refine⟨(hxH.trans hxe).set (by omega) _,?_⟩
   have hr:TA m (zS m) (l.map Ss.l)=(e,st):=by
    rw[hrun]
    show(if VG m st l[k].l≠0 then (VG m st l[k].l,st) else _)=_
    rw[hse,if_pos hne]
   unfold AOG QX
   rw[if_neg (by rw[hr]; exact fun q=>hne q.2),if_pos h0,hr]
   simp -implicitDefEqProofs only[AA,↓reduceIte]
   rfl
  ·have hse:VG m st l[k].l=0:=hfst
   have hr:TA m (zS m) (l.map Ss.l)=TA m (stp m st l[k].l) ((l.drop (k+1)).map Ss.l):=by
    rw[hrun]
    show(if VG m st l[k].l≠0 then (VG m st l[k].l,st) else _)=_
    rw[hse,if_neg (by decide)]
   have hpl : ∀ b∈pb,H0.length≤b:=S.np.lo
   have hcl : ∀ b∈cbs,H0.length≤b:=S.nc.lo
   have hhl:=hx.le
   have gm':=hFr.get _ _ gmH (by omega) (by omega) (fun q=>by have:=hpl _ q; omega) (fun q=>by have:=hcl _ q; omega)
   have g4':=hFr.get _ _ g4H (by omega) (by omega) (fun q=>by have:=hpl _ q; omega) (fun q=>by have:=hcl _ q; omega)
   have hx2:=hFr.ext hxH (by omega) (by omega) (fun b hb=>by have:=hpl _ hb; omega) (fun b hb=>by have:=hcl _ hb; omega)
   have T':TLs H' (.own lb 0 m.pts.length) (stp m st l[k].l).ls:=by
    refine .inr (.inr ⟨lb,_,?_,glb,RowsL.map _⟩)
    rw[(hok.step l[k].l).ll]
   simp -implicitDefEqProofs only[vQ,BD,↓reduceIte,jB,jU,enP,bne,beq_self_eq_true,f24,wrap_succ (show k < 9223372036854775807 by omega)]
   exact⟨n - 1,by omega,k+1,stp m st l[k].l,_,by omega,by trivial,by trivial,by trivial,by trivial,by trivial,by trivial,by trivial,gm',g4',S',T',hok.step _,hx2,hr⟩
 ·have hk' : ¬ k < l.length:=by simpa using hc
  rw[jV (by omega)] at hrun
  have hr:TA m (zS m) (l.map Ss.l)=(0,st):=hrun
  simp -implicitDefEqProofs only[vQ,BD,↓reduceIte,jB,enP,jT,f4,f6,KW S.gc rfl,A2L g4H rfl]
  rw[XP (ba:=b4) (by simp -implicitDefEqProofs only[AA,↓reduceIte,jB,f4]) (KW (EG g4H) rfl)]
  refine⟨hxH.set (by omega) _,?_⟩
  have np':NL H0.length (H.set b4 (.live 4 [cvR po st.P co st.C st.sam st.ill])) po pb st.P:=S.np.keep fun b x hb hg=>CV hg (by have:=S.np.lt hb; omega)
  have nc':NL H0.length (H.set b4 (.live 4 [cvR po st.P co st.C st.sam st.ill])) co cbs st.C:=S.nc.keep fun b x hb hg=>CV hg (by have:=S.nc.lt hb; omega)
  have e1:=AX6 st np' nc' h.length 0 hx.le
  unfold AOG QX
  rw[if_pos (by rw[hr]; exact⟨h0,rfl⟩),if_pos h0,hr]
  simp -implicitDefEqProofs only[AA,↓reduceIte]
  show AV.tup [IL h.length _ 4 (.agg (cvR po st.P co st.C st.sam st.ill)),.int .i64 0]=_
  rw[e1]
theorem AXH (xs:List Nat)(k:Nat):Rk.hasB (xs.map fun n:Nat=>(n:Int)) (k:Nat)=decide (k∈xs):=by
 unfold Rk.hasB
 rw[Bool.eq_iff_iff,List.any_eq_true,decide_eq_true_iff]
 constructor
 ·rintro⟨x,hx,he⟩
  obtain⟨n,hn,rfl⟩:=zL.1 hx
  have:=eq_of_beq he
  have:n=k:=by omega
  subst this; exact hn
 ·intro hk
  exact⟨_,zL.2 ⟨k,hk,rfl⟩,by simp⟩
theorem getD_at (xs:List Int)(k:Nat)(hk:k < xs.length):xs.getD k 0=xs[k]:=by rw[zQ,jS hk]; rfl
theorem AIW (xs:List Int)(b k:Nat)(hb:b < xs.length):(raiseAt xs b).getD k 0=if b=k then rz (xs.getD b 0) else xs.getD k 0:=by
 unfold raiseAt
 rw[zQ,List.getElem?_set]
 split
 ·rfl
 ·rw[zQ]
theorem XI (k:Nat) : ∀ (hit:List Nat) (xs:List Int),hit.Nodup→(∀ x∈hit,x < xs.length)→(rowP hit xs).getD k 0=if k∈hit then rz (xs.getD k 0) else xs.getD k 0
 | [],xs,_,_=>by simp [rowP]
 | b :: hit,xs,hn,hl=>by
   obtain⟨h1,h2⟩:=List.nodup_cons.1 hn
   have hb:=hl b (by simp)
   have ih:=XI k hit (raiseAt xs b) h2 (fun x hx=>by rw[TL]; exact hl x (by simp [hx]))
   have e:rowP (b :: hit) xs=rowP hit (raiseAt xs b):=rfl
   rw[e,ih,AIW xs b k hb]
   by_cases hk:k∈hit
   ·have hne:b≠k:=fun q=>h1 (by rw[q]; exact hk)
    rw[if_pos hk,if_neg hne,if_pos (by simp [hk])]
   ·rw[if_neg hk]
    by_cases hbk:b=k
    ·subst hbk
     rw[if_pos rfl,if_pos (by simp)]
    ·rw[if_neg hbk,if_neg (by simp [hk]; exact fun q=>hbk q.symm)]
theorem ACI (bins:List Bin)(last:List Int)(v kind:Int) : ∀ k,(NQ bins last v kind k).Nodup
 | 0=>by simp [NQ]
 | k+1=>by
   have ih:=ACI bins last v kind k
   simp only[NQ]
   split
   ·refine List.nodup_append.2 ⟨ih,by simp,fun a ha c hc e => ?_⟩
    simp at hc
    have:=AEZ bins last v kind k a ha
    omega
   ·simpa using ih
theorem ABF (p:Pt)(last:List Int)(l:List Sg):(ptE p last l).hit.Nodup:=by
 unfold ptE
 split
 ·simp
 ·split
  ·simp
  ·split
   ·simp
   ·split
    ·simp
    ·exact ACI _ _ _ _ _
theorem AE0 (bins:List Bin)(last:List Int)(v:Int) : ∀ k,∀ x∈NQ bins last v 0 k,∃ b,bins[x]? = some b∧(b.kind == 0)=true
 | 0,x,hx=>by simp [NQ] at hx
 | k+1,x,hx=>by
   simp only[NQ] at hx
   rcases qI.1 hx with h | h
   ·exact AE0 bins last v k x h
   ·split at h
    ·rename_i hq
     simp at h; subst h
     cases hb:bins[x]? with
     | none=>rw[hb] at hq; cases hq
     | some b =>
       rw[hb] at hq
       have hK1:hK last v 0 b=true:=hq
       unfold hK at hK1
       rw[jX] at hK1
       exact⟨b,rfl,hK1.1⟩
    ·cases h
theorem AV4 (p:Pt)(last:List Int)(l:List Sg) : ∀ x∈(ptE p last l).hit,(kindOf p x == 0)=true:=by
 intro x hx
 unfold ptE at hx
 split at hx
 ·cases hx
 ·split at hx
  ·cases hx
  ·split at hx
   ·cases hx
   ·split at hx
    ·cases hx
    ·obtain⟨b,h1,h2⟩:=AE0 _ _ _ _ x hx
     unfold kindOf; rw[h1]; exact h2
theorem WI {p:Nat→Bool} : ∀ {l:List Int} {k:Nat},rowF p k l=true↔∀ j,j < l.length→countB (l.getD j 0) (p (k+j))=true
 | [],k=>by simp [rowF]
 | n :: l,k=>by
   simp only[rowF,jX]
   rw[WI (l:=l) (k:=k+1)]
   constructor
   ·rintro⟨h1,h2⟩ j hj
    cases j with
    | zero=>exact h1
    | succ j =>
      have:=h2 j (by simpa using hj)
      rw[show k+(j+1)=k+1+j by omega]; exact this
   ·intro h
    refine⟨h 0 (by simp),fun j hj => ?_⟩
    have:=h (j+1) (by simpa using hj)
    rw[show k+(j+1)=k+1+j by omega] at this; exact this
theorem AH9 {n:Int}{p:Bool}(h:countB n p=true)(hp:p=true):countB (rz n) p=true:=by
 have h1:=YJ h
 subst hp
 unfold countB
 simp only[wU,Bool.and_true]
 rw[OU] at *
 unfold rz; omega
theorem AWG {p:Pt}{last:List Int}{env:List Sg}{x y:Is}(hx:okP p x=true)(hy:y.l=rowP (ptE p last env).hit x.l):okP p y=true:=by
 unfold okP at *
 simp only[jX,beq_iff_eq] at *
 rw[hy,QG]
 refine⟨hx.1,WI.2 fun j hj => ?_⟩
 rw[QG] at hj
 have h2:=WI.1 hx.2 j hj
 rw[XI j _ _ (ABF _ _ _) (fun z hz=>by rw[hx.1]; exact AIX _ _ _ z hz)]
 split
 ·rename_i hm
  exact AH9 h2 (by rw[jG]; exact AV4 _ _ _ j hm)
 ·exact h2
theorem AHG (m:Mo)(x:Cr)(hits:List (List Nat))(xs:List Int)(k:Nat)(hk:k < xs.length):(rowC m x hits xs).getD k 0=if crK m x hits k=true then rz (xs.getD k 0) else xs.getD k 0:=by
 have hl:k < (rowC m x hits xs).length:=by rw[rowC_len]; exact hk
 rw[getD_at _ _ hl,AD7 m x hits xs k hk hl,getD_at _ _ hk]
theorem AWH {m:Mo}{c:Cr}{hits:List (List Nat)}{x y:Is}(hx:okC m c x=true)(hy:y.l=rowC m c hits x.l):okC m c y=true:=by
 unfold okC at *
 simp only[jX,beq_iff_eq] at *
 rw[hy,rowC_len]
 refine⟨hx.1,WI.2 fun j hj => ?_⟩
 rw[rowC_len] at hj
 have h2:=WI.1 hx.2 j hj
 rw[AHG m c hits _ j hj]
 split
 ·rename_i hm
  unfold crK at hm
  rw[jX] at hm
  exact AH9 h2 (by rw[jG]; exact hm.1)
 ·exact h2
theorem AJM {α:Type}{ok:α→Is→Bool} : ∀ {ws:List α} {xs:List Is},ws.length=xs.length→(∀ (i:Nat) (a:α) (x:Is),ws[i]? = some a→xs[i]? = some x→ok a x=true)→MS ok ws xs=true
 | [],[],_,_=>rfl
 | w :: ws,x :: xs,hl,h=>by
   simp only[MS,jX]
   exact⟨h 0 w x rfl rfl,AJM (by simpa using hl) fun i a y h1 h2=>h (i+1) a y (by simpa using h1) (by simpa using h2)⟩
 | [],_ :: _,hl,_=>by simp at hl
 | _ :: _,[],hl,_=>by simp at hl
def stO (c:Cvr)(t:Tk):St:=⟨c.pts.map Is.l,c.crs.map Is.l,c.sam,c.ill,t.last.map Is.l⟩
def isL (P:List (List Int)):List Is:=P.map fun x=>⟨nm x,x⟩
def tkS (s:St):Tk:=⟨nm (isL s.ls),isL s.ls⟩
structure FitS (m:Mo) (s:St):Prop where
 me:FX m=0
 fp:MS okP m.pts (Q9 s.P)=true
 fc:MS (okC m) m.crs (Q9 s.C)=true
 ws:J7 s.sam=true
 wi:J7 s.ill=true
 ll:s.ls.length=m.pts.length
 lb : ∀ l∈s.ls,lastB l=true
theorem ARH {p:Pt}{x y:Is}(h:x.l=y.l):okP p x=okP p y:=by unfold okP; rw[h]
theorem ARJ {m:Mo}{c:Cr}{x y:Is}(h:x.l=y.l):okC m c x=okC m c y:=by unfold okC; rw[h]
theorem SS (P:List (List Int)):(Q9 P).map (·.l)=P:=by unfold Q9; rw[wF]; exact List.map_id _
theorem ADF {m:Mo}{c:Cvr}{t:Tk}(hc:LC m c=true)(ht:ACX m t=true):FitS m (stO c t):=by
 obtain⟨h1,h2,h3,h4,h5⟩:=RP.1 hc
 unfold ACX at ht
 simp only[jX,beq_iff_eq] at ht
 obtain⟨⟨_,k1⟩,k2⟩:=ht
 refine⟨h1,?_,?_,h4,h5,?_,fun l hl => ?_⟩
 ·rw[← h2]
  exact SG (ok:=okP) (fun _ _ _ h=>ARH h) _ _ _ (SS _)
 ·rw[← h3]
  exact SG (ok:=okC m) (fun _ _ _ h=>ARJ h) _ _ _ (SS _)
 ·show(t.last.map Is.l).length=_
  rw[jH]; omega
 ·obtain⟨x,hx,rfl⟩:=zL.1 hl
  exact zI.1 k2 x hx
theorem FitS.fits {m:Mo}{s:St}(h:FitS m s):LC m (cvS s)=true:=RP.2 ⟨h.me,h.fp,h.fc,h.ws,h.wi⟩
theorem FitS.trk {m:Mo}{s:St}(h:FitS m s):ACX m (tkS s)=true:=by
 unfold ACX tkS isL
 have h1:=h.me; have h2:=h.ll
 simp only[jX,beq_iff_eq,jH,List.all_map]
 refine⟨⟨h1,by omega⟩,?_⟩
 rw[zI]
 exact fun x hx=>h.lb x hx
theorem U1 {α:Type}{ok:α→Is→Bool}{ws:List α}{xs:List Is}(h:MS ok ws xs=true)(i:Nat)(a:α)(x:Is)(h1:ws[i]? = some a)(h2:xs[i]? = some x):ok a x=true:=by
 obtain⟨y,hy,hk⟩:=AAJ h i a h1
 rw[h2] at hy; cases hy; exact hk
theorem FitS.ok {m:Mo}{s:St}(h:FitS m s):StOk m s:=by
 have lp:=SE h.fp
 have lc:=SE h.fc
 have hpl:s.P.length=m.pts.length:=by rw[lp]; simp [Q9]
 have hcl:s.C.length=m.crs.length:=by rw[lc]; simp [Q9]
 refine⟨⟨hpl,hcl,fun i a b => ?_,fun i a b => ?_,fun xs hx => ?_,fun xs hx => ?_⟩,h.ll,fun l hl => ?_,OU.1 h.ws,OU.1 h.wi⟩
 ·have:=U1 h.fp i m.pts[i] ⟨.any,s.P[i]⟩ (jS b) (by simp [Q9])
  unfold okP at this
  simp only[jX,beq_iff_eq] at this
  exact this.1
 ·have:=U1 h.fc i m.crs[i] ⟨.any,s.C[i]⟩ (jS b) (by simp [Q9])
  unfold okC at this
  simp only[jX,beq_iff_eq] at this
  exact this.1
 ·obtain⟨i,hi,rfl⟩:=qL hx
  have:=U1 h.fp i m.pts[i] ⟨.any,s.P[i]⟩ (jS (by omega)) (by simp [Q9])
  unfold okP at this
  rw[jX] at this
  exact fun n hn=>OU.1 (WH this.2 n hn)
 ·obtain⟨i,hi,rfl⟩:=qL hx
  have:=U1 h.fc i m.crs[i] ⟨.any,s.C[i]⟩ (jS (by omega)) (by simp [Q9])
  unfold okC at this
  rw[jX] at this
  exact fun n hn=>OU.1 (WH this.2 n hn)
 ·have:=h.lb l hl
  unfold lastB at this
  rw[jX] at this
  simpa using this.1
theorem ADQ {n:Int}(h:J7 n=true):J7 (rz n)=true:=by
 rw[OU] at *
 unfold rz; omega
theorem A4H (l:List Sg)(e:Ex):(evE l e).1 < 65536:=by
 unfold evE
 split
 ·decide
 ·split
  ·exact AQU l e
  ·decide
theorem YZ {last:List Int}{v:Nat}(hl:lastB last=true)(hv:v < 65536):lastB (nextL last v)=true:=by
 unfold lastB at *
 simp only[jX,decide_eq_true_eq,Bool.not_eq_true'] at *
 obtain⟨h1,h2⟩:=hl
 refine⟨?_,?_⟩
 ·unfold nextL; rw[List.length_drop,qA]; simp; omega
 ·rw[List.any_eq_false] at *
  intro x hx
  have hx':=List.mem_of_mem_drop hx
  rcases qI.1 hx' with h | h
  ·exact h2 x h
  ·simp at h; subst h
   unfold outW
   simp; omega
theorem AV3 {p:Pt}{last:List Int}{l:List Sg}(h0:(ptE p last l).err=0):lastB (ptE p last l).next=true:=by
 have hv:=A4H l p.ex
 unfold ptE at *
 split at h0
 ·cases h0
 ·rename_i hn
  have hlb:lastB last=true:=by
   cases hq:lastB last
   ·exact absurd (.inr hq) hn
   ·rfl
  rw[if_neg hn]
  split at h0
  ·rename_i h1
   exact absurd h0 h1
  ·rename_i h1
   rw[if_neg h1]
   split
   ·exact YZ hlb hv
   ·split
    ·exact YZ hlb hv
    ·exact YZ hlb hv
theorem FitS.step {m:Mo}{s:St}(h:FitS m s){env:List Sg}(h0:VG m s env=0):FitS m (stp m s env):=by
 have hok:=h.ok
 have hr:=UR m s.ls env h.ll
 have hpl:=hok.sh.pl
 have hcl:=hok.sh.cl
 have l1:=UK (OM m s.ls env) s.P (by omega)
 have l2:=UM m ((OM m s.ls env).map PtR.hit) s.C hcl
 refine⟨h.me,?_,?_,ADQ h.ws,?_,by simp [stp,hr],fun l hl => ?_⟩
 ·refine AJM (by simp [Q9,stp,l1]; omega) fun i a x e1 e2 => ?_
  have hi:i < m.pts.length:=CJ e1
  rw[jS hi] at e1; cases e1
  have hx:x.l=rowP (ptE m.pts[i] (s.ls[i]'(by rw[h.ll]; exact hi)) env).hit (s.P[i]'(by omega)):=by
   unfold Q9 at e2
   rw[jY] at e2
   have:(stp m s env).P[i]? = some (rowP ((OM m s.ls env)[i]'(by omega)).hit (s.P[i]'(by omega))):=by
    show(LW (OM m s.ls env) s.P)[i]? = _
    rw[jS (by omega),UL _ _ i (by omega) (by omega)]
   rw[this] at e2; cases e2
   rw[ZX m s.ls env i hi (by rw[h.ll]; exact hi) (by omega)]
  exact AWG (U1 h.fp i m.pts[i] ⟨.any,s.P[i]'(by omega)⟩ (jS hi) (by simp [Q9] <;> omega)) hx
 ·refine AJM (by simp [Q9,stp,l2]; omega) fun i a x e1 e2 => ?_
  have hi:i < m.crs.length:=CJ e1
  rw[jS hi] at e1; cases e1
  have hx:x.l=rowC m m.crs[i] ((OM m s.ls env).map PtR.hit) (s.C[i]'(by omega)):=by
   unfold Q9 at e2
   rw[jY] at e2
   have:(stp m s env).C[i]? = some (rowC m m.crs[i] ((OM m s.ls env).map PtR.hit) (s.C[i]'(by omega))):=by
    show(NK m ((OM m s.ls env).map PtR.hit) s.C)[i]? = _
    rw[jS (by omega),UN _ _ _ i hi (by omega)]
   rw[this] at e2; cases e2
   rfl
  exact AWH (U1 h.fc i m.crs[i] ⟨.any,s.C[i]'(by omega)⟩ (jS hi) (by simp [Q9] <;> omega)) hx
 ·unfold stp
  dsimp only
  split
  ·exact ADQ h.wi
  ·exact h.wi
 ·obtain⟨r,hrm,rfl⟩:=zL.1 hl
  have he:=UY PtR.err h0 r hrm
  obtain⟨p,hp,rfl⟩:=zL.1 hrm
  exact AV3 he
theorem AU8 {m:Mo}(h:FX m=0):FitS m (zS m):=by
 refine⟨h,?_,?_,by show J7 0=true; decide,by show J7 0=true; decide,(A2H m).ll,fun l hl => ?_⟩
 ·rw[show MS okP m.pts (Q9 (zS m).P)=MS okP m.pts (m.pts.map fun p=>zIs p.bins.length) from SG (ok:=okP) (fun _ _ _ h=>ARH h) _ _ _ (by rw[SS]; simp [zS,zP,zIs])]
  exact W9 (ok:=okP) _ (fun p=>by unfold okP; simp [zIs,UQ]; simp [zeros]) _
 ·rw[show MS (okC m) m.crs (Q9 (zS m).C)=MS (okC m) m.crs (m.crs.map fun c=>zIs (H8 (szs m c.pts))) from SG (ok:=okC m) (fun _ _ _ h=>ARJ h) _ _ _ (by rw[SS]; simp [zS,zC,zIs])]
  exact W9 (ok:=okC m) _ (fun c=>by unfold okC; simp [zIs,UQ]; simp [zeros]) _
 ·rw[List.eq_of_mem_replicate hl]; decide
structure Sx (h H:Hp) (m:Mo) (c:Cvr) (t:Tk) (vb tb b8 b9 n0 K ob nb po co:Nat) (pb cbs:List Nat) (P C:List (List Int)) (sam ill:Int) (w:AV):Prop where
 gm:H[h.length]? = some (.live 2 [EE m])
 gv:H[vb]? = some (.live 4 [encV c])
 gt:H[tb]? = some (.live 1 [LZ t])
 g8:H[b8]? = some (.live 4 [GG])
 g9:H[b9]? = some (.live 1 [GH])
 o1:h.length < vb
 o2:vb < tb
 o3:tb < b8
 o4:b8 < b9
 o5:b9 < n0
 cs:CS n0 H ob nb po co pb cbs P C sam ill w
 lo:n0≤ob
 ln:n0≤nb
 ho:ob < K
 hn:nb < K
 hp : ∀ b∈pb,b < K
 hc : ∀ b∈cbs,b < K
 hpo:P≠[]→po < K
 hco:C≠[]→co < K
 kh:K≤H.length
 hx:ext h H
section
variable {h H:Hp} {m:Mo} {c:Cvr} {t:Tk} {vb tb b8 b9 n0 K ob nb po co:Nat} {pb cbs:List Nat} {P C:List (List Int)} {sam ill:Int} {w:AV} (S:Sx h H m c t vb tb b8 b9 n0 K ob nb po co pb cbs P C sam ill w)
include S
theorem Sx.keep {H':Hp}(hk : ∀ (b:Nat) (x:ABlk),b < K→H[b]? = some x→H'[b]? = some x)(hl:K≤H'.length)(hx:Sm.ext h H'):Sx h H' m c t vb tb b8 b9 n0 K ob nb po co pb cbs P C sam ill w:=by
 have o1:=S.o1; have o2:=S.o2; have o3:=S.o3; have o4:=S.o4; have o5:=S.o5; have lo:=S.lo; have ho:=S.ho
 have cs:=S.cs
 refine⟨hk _ _ (by omega) S.gm,hk _ _ (by omega) S.gv,hk _ _ (by omega) S.gt,hk _ _ (by omega) S.g8,hk _ _ (by omega) S.g9,o1,o2,o3,o4,o5,
  ⟨hk _ _ S.ho cs.gc,hk _ _ S.hn cs.gt,cs.np.keep fun b x hb hg => ?_,cs.nc.keep fun b x hb hg => ?_,cs.dis,cs.xcp,cs.xcc,cs.xtp,cs.xtc,cs.xpo,cs.xco,cs.ct⟩,S.lo,S.ln,S.ho,S.hn,S.hp,S.hc,S.hpo,S.hco,hl,hx⟩
 ·rcases hb with⟨hP,rfl⟩ | hb
  ·exact hk _ _ (S.hpo hP) hg
  ·exact hk _ _ (S.hp _ hb) hg
 ·rcases hb with⟨hC,rfl⟩ | hb
  ·exact hk _ _ (S.hco hC) hg
  ·exact hk _ _ (S.hc _ hb) hg
theorem Sx.app (x:Hp):Sx h (H++x) m c t vb tb b8 b9 n0 K ob nb po co pb cbs P C sam ill w:=S.keep (fun _ _ _ hg=>F7 hg) (by have:=S.kh; simp; omega) (S.hx.app x)
theorem Sx.setP {i:Nat}(hi:i < pb.length)(ys:List Int)(hl : ∀ hx:i < P.length,ys.length=P[i].length):Sx h (H.set pb[i] (.live 1 (ys.map qencI))) m c t vb tb b8 b9 n0 K ob nb po co pb cbs (P.set i ys) C sam ill w:=by
 have o1:=S.o1; have o2:=S.o2; have o3:=S.o3; have o4:=S.o4; have o5:=S.o5
 have hb:=S.cs.np.lo _ (jP hi)
 exact⟨CV S.gm (by omega),CV S.gv (by omega),CV S.gt (by omega),CV S.g8 (by omega),CV S.g9 (by omega),o1,o2,o3,o4,o5,S.cs.setP hi ys hl,S.lo,S.ln,S.ho,S.hn,S.hp,S.hc,fun q=>S.hpo (fun e=>q (by rw[e]; rfl)),S.hco,by rw[qW]; exact S.kh,S.hx.set (by omega) _⟩
theorem Sx.setC {i:Nat}(hi:i < cbs.length)(ys:List Int)(hl : ∀ hx:i < C.length,ys.length=C[i].length):Sx h (H.set cbs[i] (.live 1 (ys.map qencI))) m c t vb tb b8 b9 n0 K ob nb po co pb cbs P (C.set i ys) sam ill w:=by
 have o1:=S.o1; have o2:=S.o2; have o3:=S.o3; have o4:=S.o4; have o5:=S.o5
 have hb:=S.cs.nc.lo _ (jP hi)
 exact⟨CV S.gm (by omega),CV S.gv (by omega),CV S.gt (by omega),CV S.g8 (by omega),CV S.g9 (by omega),o1,o2,o3,o4,o5,S.cs.setC hi ys hl,S.lo,S.ln,S.ho,S.hn,S.hp,S.hc,S.hpo,fun q=>S.hco (fun e=>q (by rw[e]; rfl)),by rw[qW]; exact S.kh,S.hx.set (by omega) _⟩
theorem Sx.setT (w':AV):Sx h (H.set nb (.live 1 [[w']])) m c t vb tb b8 b9 n0 K ob nb po co pb cbs P C sam ill w':=by
 have o1:=S.o1; have o2:=S.o2; have o3:=S.o3; have o4:=S.o4; have o5:=S.o5; have ln:=S.ln
 exact⟨CV S.gm (by omega),CV S.gv (by omega),CV S.gt (by omega),CV S.g8 (by omega),CV S.g9 (by omega),o1,o2,o3,o4,o5,S.cs.setT w',S.lo,S.ln,S.ho,S.hn,S.hp,S.hc,S.hpo,S.hco,by rw[qW]; exact S.kh,S.hx.set (by omega) _⟩
theorem Sx.setN (sam' ill':Int):Sx h (H.set ob (.live 4 [cvR po P co C sam' ill'])) m c t vb tb b8 b9 n0 K ob nb po co pb cbs P C sam' ill' w:=by
 have o1:=S.o1; have o2:=S.o2; have o3:=S.o3; have o4:=S.o4; have o5:=S.o5; have lo:=S.lo
 exact⟨CV S.gm (by omega),CV S.gv (by omega),CV S.gt (by omega),CV S.g8 (by omega),CV S.g9 (by omega),o1,o2,o3,o4,o5,S.cs.setN sam' ill',S.lo,S.ln,S.ho,S.hn,S.hp,S.hc,S.hpo,S.hco,by rw[qW]; exact S.kh,S.hx.set (by omega) _⟩
theorem Sx.m0:D8 Tryz.prog H 22 (.ptr h.length 0 0)=some (.sl m.pm 6 (m.pts.map GI)):=by rw[DY ZB S.gm (row:=EE m) rfl,SL]
theorem Sx.m1:D8 Tryz.prog H 23 (.ptr h.length 0 1)=some (.sl m.cm 3 (m.crs.map GV)):=by rw[DY AB5 S.gm (row:=EE m) rfl,U2]
theorem Sx.v0:D8 Tryz.prog H 67 (.ptr vb 0 0)=some (.sl c.pm 1 (c.pts.map encL)):=by rw[DY UE S.gv (row:=encV c) rfl,A2X]
theorem Sx.v1:D8 Tryz.prog H 67 (.ptr vb 0 1)=some (.sl c.cm 1 (c.crs.map encL)):=by rw[DY UE S.gv (row:=encV c) rfl,A2W]
theorem Sx.v2:D8 Tryz.prog H 3 (.ptr vb 0 2)=some (.int .i64 c.sam):=by rw[DY ag3 S.gv (row:=encV c) rfl,A2V]
theorem Sx.v3:D8 Tryz.prog H 3 (.ptr vb 0 3)=some (.int .i64 c.ill):=by rw[DY ag3 S.gv (row:=encV c) rfl,A2U]
theorem Sx.t0:D8 Tryz.prog H 67 (.ptr tb 0 0)=some (.sl t.m 1 (t.last.map encL)):=by rw[DY UE S.gt (row:=LZ t) rfl,A2Y]
theorem Sx.rowP {i:Nat}(hi:i < P.length)(hip:i < pb.length):D8 Tryz.prog H 67 (.ptr ob 0 0)=some (nlV po P)∧J3 1 H (nlV po P) (.int .i64 (i:Nat))=some (.ptr po i 0)∧D8 Tryz.prog H 26 (.ptr po i 0)=some (.own pb[i] 0 P[i].length)∧H[pb[i]]? = some (.live 1 (P[i].map qencI)) :=
 ⟨S.cs.l0,S.cs.np.ix hi,S.cs.np.ld hi,S.cs.np.row i hip hi⟩
theorem Sx.rowC {i:Nat}(hi:i < C.length)(hip:i < cbs.length):D8 Tryz.prog H 67 (.ptr ob 0 1)=some (nlV co C)∧J3 1 H (nlV co C) (.int .i64 (i:Nat))=some (.ptr co i 0)∧D8 Tryz.prog H 26 (.ptr co i 0)=some (.own cbs[i] 0 C[i].length)∧H[cbs[i]]? = some (.live 1 (C[i].map qencI)) :=
 ⟨S.cs.l1,S.cs.nc.ix hi,S.cs.nc.ld hi,S.cs.nc.row i hip hi⟩
end
theorem AW6 {H:Hp}{b:Nat}{xs:List Int}(hb:H[b]? = some (.live 1 (xs.map qencI))){k:Nat}(hk:k < xs.length):J3 1 H (.own b 0 xs.length) (.int .i64 (k:Nat))=some (.ptr b k 0):=by
 have:=JR (kk := .i64) (off:=0) (len:=xs.length) hb hk
 rw[jG] at this; exact this
theorem AVN {H:Hp}{b:Nat}{xs:List Int}(hb:H[b]? = some (.live 1 (xs.map qencI))){k:Nat}(hk:k < xs.length)(v:Int):FP Tryz.prog H 3 (.ptr b k 0) (.int .i64 v)=some (H.set b (.live 1 ((xs.set k v).map qencI))):=by
 rw[JQ (QR _ _) sz3 hb (row_map hk) (by simp [qencI]),List.map_set]
 rfl
def RV (m:Mo)(c:Cvr)(t:Tk)(env:List Sg):Int:=if FX m=0 then (if(LC m c && ACX m t)=true then VG m (stO c t) env else 1) else FX m
def ZT (m:Mo)(c:Cvr)(t:Tk)(env:List Sg):Cvr:=if RV m c t env=0 then cvS (stp m (stO c t) env) else zV
def ADZ (m:Mo)(c:Cvr)(t:Tk)(env:List Sg):Tk:=if RV m c t env=0 then tkS (stp m (stO c t) env) else zT
def tkW (s:St):List AV := [fzG 1 L8 s.ls]
theorem A3G (s:St):CvR (.agg (tkW s)) (.agg (LZ (tkS s))):=by
 refine CvR.agg (CvRL.cons ?_ CvRL.nil)
 have h1:CvR (fzG 1 L8 s.ls) (.sl (nm s.ls) 1 (s.ls.map L8)):=WY
 have e:(isL s.ls).map encL=s.ls.map L8:=by unfold isL; rw[wF]; rfl
 have e2:nm (isL s.ls)=nm s.ls:=by unfold isL; cases s.ls <;> rfl
 show CvR (fzG 1 L8 s.ls) (.sl (nm (isL s.ls)) 1 ((isL s.ls).map encL))
 rw[e,e2]; exact h1
def AIS (m:Mo)(c:Cvr)(t:Tk)(env:List Sg):AV:=if RV m c t env=0 then .tup [.agg (cvW (stp m (stO c t) env)),.agg (tkW (stp m (stO c t) env)),.int .i64 0] else .tup [.agg GG,.agg GH,.int .i64 (RV m c t env)]
theorem AZR (m:Mo)(c:Cvr)(t:Tk)(env:List Sg):CvR (AIS m c t env) (.tup [.agg (encV (ZT m c t env)),.agg (LZ (ADZ m c t env)),.int .i64 (RV m c t env)]):=by
 unfold AIS ZT ADZ
 split
 ·rename_i h
  rw[h]
  exact CvR.tup (CvRL.cons (AX1 _) (CvRL.cons (A3G _) (CvRL.refl _)))
 ·exact AXQ _
theorem A6S:Frz L8:=fun _ _ _ _=>⟨rfl,rfl⟩
structure Sy (h H:Hp) (m:Mo) (c:Cvr) (t:Tk) (vb tb b8 b9:Nat):Prop where
 gm:H[h.length]? = some (.live 2 [EE m])
 gv:H[vb]? = some (.live 4 [encV c])
 gt:H[tb]? = some (.live 1 [LZ t])
 g8:H[b8]? = some (.live 4 [GG])
 g9:H[b9]? = some (.live 1 [GH])
 o1:h.length < vb
 o2:vb < tb
 o3:tb < b8
 o4:b8 < b9
 o5:b9 < H.length
 hx:ext h H
theorem Sy.mk' (h:Hp)(m:Mo)(c:Cvr)(t:Tk):Sy h (h++[ABlk.live 2 [EE m]]++[ABlk.live 4 [encV c]]++[ABlk.live 1 [LZ t]]++[ABlk.live 4 [GG]]++[ABlk.live 1 [GH]]) m c t (h++[ABlk.live 2 [EE m]]).length (h++[ABlk.live 2 [EE m]]++[ABlk.live 4 [encV c]]).length
  (h++[ABlk.live 2 [EE m]]++[ABlk.live 4 [encV c]]++[ABlk.live 1 [LZ t]]).length (h++[ABlk.live 2 [EE m]]++[ABlk.live 4 [encV c]]++[ABlk.live 1 [LZ t]]++[ABlk.live 4 [GG]]).length :=
 ⟨CX (CX (CX (CX (CZ _ _)))),CX (CX (CX (CZ _ _))),CX (CX (CZ _ _)),CX (CZ _ _),CZ _ _,by simp,by simp,by simp,by simp,by simp,((((ext.rfl' h).app _).app _).app _).app _ |>.app _⟩
theorem ZR {m:Mo}{c:Cvr}{t:Tk}{env:List Sg}{e:Int}(h:RV m c t env=e)(hne:e≠0):AIS m c t env = .tup [.agg GG,.agg GH,.int .i64 e]:=by
 unfold AIS
 rw[h,if_neg hne]
theorem hbs {α β:Type}(f:α→β)(l:List α)(k:Nat){h:k < l.length}:(l.take k).map f++[f l[k]]=(l.take (k+1)).map f:=by rw[zN h,List.map_append]; rfl
set_option maxHeartbeats 8000000 in
theorem AQB (G:Nat→AV)(m:Mo)(hm:MoOk m)(c:Cvr)(hcv:CvOk c)(t:Tk)(ht:TkOk t)(env:List Sg)(sm:SM)(h:Hp)(henv:env.length≤1099511627776)(hsg : ∀ s∈env,XF s) :
  PCall (En G) 80 [.agg (EE m),.agg (encV c),.agg (LZ t),.sl sm 2 (env.map G8)] h (.tup [.agg (encV (ZT m c t env)),.agg (LZ (ADZ m c t env)),.int .i64 (RV m c t env)]):=by
 refine PCall.res (r:=AIS m c t env) ?_ (AZR _ _ _ _)
 refine ACalls.pure (R:=fun v H=>ext h H∧IL h.length H 5 v=AIS m c t env) 5 ?_ (fun v H ⟨a,b⟩=>⟨a,b⟩)
 refine acN Tryz.func80 rfl ?_
 show awp _ _ _ _ _ (EM _ [.cell 8 81,.cell 9 120,.tmp 10] _)
 have Y:=Sy.mk' h m c t
 simp -implicitDefEqProofs only[vQ,BD,↓reduceIte,jB,enP,bxM,bxV,bxT,PU,AC5]
 generalize h++[ABlk.live 2 [EE m]]++[ABlk.live 4 [encV c]]++[ABlk.live 1 [LZ t]]++[ABlk.live 4 [GG]]++[ABlk.live 1 [GH]]=H0 at Y ⊢
 generalize (h++[ABlk.live 2 [EE m]]++[ABlk.live 4 [encV c]]++[ABlk.live 1 [LZ t]]++[ABlk.live 4 [GG]]).length=b9 at Y ⊢
 generalize (h++[ABlk.live 2 [EE m]]++[ABlk.live 4 [encV c]]++[ABlk.live 1 [LZ t]]).length=b8 at Y ⊢
 generalize (h++[ABlk.live 2 [EE m]]++[ABlk.live 4 [encV c]]).length=tb at Y ⊢
 generalize (h++[ABlk.live 2 [EE m]]).length=vb at Y ⊢
 have o1:=Y.o1; have o2:=Y.o2; have o3:=Y.o3; have o4:=Y.o4; have o5:=Y.o5
 have hend : ∀ (F:Fr) (e:Int),F 8 = .ptr b8 0 0→F 9 = .ptr b9 0 0→F 10 = .int .i64 e→AIS m c t env = .tup [.agg GG,.agg GH,.int .i64 e]→∀ H:Hp,H[b8]? = some (.live 4 [GG])→H[b9]? = some (.live 1 [GH])→ext h H →
   EM Tryz.prog [.cell 8 81,.cell 9 120,.tmp 10] (fun v H=>ext h H∧IL h.length H 5 v=AIS m c t env) .ret F H:=fun F e f8 f9 f10 hw H g8 g9 hx=>by
  rw[XO (ba:=b8) (bb:=b9) f8 f9 (KW g8 rfl) (QC g9 rfl),f10,hw]
  exact⟨hx,rfl⟩
 simp -implicitDefEqProofs only[vQ,BD,↓reduceIte,ldM Y.gm]
 refine(RH G m hm H0).use ?_
 cases hb:(FX m == 0)
 ·have hne:FX m≠0:=by simpa using hb
  simp -implicitDefEqProofs only[vQ,BD,↓reduceIte,jB,enP,jT,bne,hb,VY,AF1,stZ Y.g8 rfl,ADY (CV Y.g9 (show b9≠b8 by omega)) rfl]
  exact hend _ (FX m) (by simp -implicitDefEqProofs only[AA,↓reduceIte,jB]) (by simp -implicitDefEqProofs only[AA,↓reduceIte,jB]) (by simp -implicitDefEqProofs only[AA,↓reduceIte]) (ZR (by unfold RV; rw[if_neg hne]) hne) _ (CV (EG Y.g8) (show b8≠b9 by omega)) (EG (CV Y.g9 (show b9≠b8 by omega))) ((Y.hx.set (by omega) _).set (by omega) _)
 have h0:FX m=0:=by simpa using hb
 simp -implicitDefEqProofs only[vQ,BD,↓reduceIte,jB,jU,enP,bne,hb,ldM Y.gm,ldV Y.gv]
 refine(AXK G m c hm hcv H0).use ?_
 cases hf:LC m c
 ·simp -implicitDefEqProofs only[vQ,CP,BD,EW,↓reduceIte,jB,enP,jT,VY,AF1,stZ Y.g8 rfl,ADY (CV Y.g9 (show b9≠b8 by omega)) rfl]
  exact hend _ 1 (by simp -implicitDefEqProofs only[AA,↓reduceIte,jB]) (by simp -implicitDefEqProofs only[AA,↓reduceIte,jB]) (by simp -implicitDefEqProofs only[AA,↓reduceIte]) (ZR (by unfold RV; rw[if_pos h0,if_neg (by rw[hf]; simp)]) (by decide)) _ (CV (EG Y.g8) (show b8≠b9 by omega)) (EG (CV Y.g9 (show b9≠b8 by omega))) ((Y.hx.set (by omega) _).set (by omega) _)
 simp -implicitDefEqProofs only[vQ,CP,BD,↓reduceIte,jB,jU,enP,ldM Y.gm,ldT Y.gt]
 refine(AP9 G m hm t ht H0).use ?_
 cases htr:ACX m t
 ·simp -implicitDefEqProofs only[vQ,CP,BD,↓reduceIte,jB,enP,jT,VY,AF1,stZ Y.g8 rfl,ADY (CV Y.g9 (show b9≠b8 by omega)) rfl]
  exact hend _ 1 (by simp -implicitDefEqProofs only[AA,↓reduceIte,jB]) (by simp -implicitDefEqProofs only[AA,↓reduceIte,jB]) (by simp -implicitDefEqProofs only[AA,↓reduceIte]) (ZR (by unfold RV; rw[if_pos h0,if_neg (by rw[htr]; simp)]) (by decide)) _ (CV (EG Y.g8) (show b8≠b9 by omega)) (EG (CV Y.g9 (show b9≠b8 by omega))) ((Y.hx.set (by omega) _).set (by omega) _)
 have hF:=ADF hf htr
 have hok:=hF.ok
 have hg:=NY h0
 have hE:RV m c t env=VG m (stO c t) env:=by unfold RV; rw[if_pos h0,if_pos (by rw[hf,htr]; rfl)]
 have hnum:=hg.num
 have hnp:m.pts.length≤16:=by omega
 have hnc:m.crs.length≤16:=by omega
 have hsh:=hok.sh
 have hll:=hok.ll
 have hPl:=hsh.pl; have hCl:=hsh.cl
 have hcp:(stO c t).P.length=c.pts.length:=by simp [stO]
 have hcc:(stO c t).C.length=c.crs.length:=by simp [stO]
 have hct:(stO c t).ls.length=t.last.length:=by simp [stO]
 have hrl:=UR m (stO c t).ls env hll
 have hrg:=ZX m (stO c t).ls env
 obtain⟨rs,hrs⟩ : ∃ z,z=OM m (stO c t).ls env:=⟨_,rfl⟩
 rw[← hrs] at hrl
 have hsl:=UK rs (stO c t).P (by omega)
 have hscl:=UM m (rs.map PtR.hit) (stO c t).C hCl
 have hzl:=AA6 m
 have hzc:=AA7 m
 simp -implicitDefEqProofs only[vQ,CP,BD,↓reduceIte,jB,jU,enP,ldM Y.gm]
 refine(APE G m hm hg H0).mono ?_
 rintro _ H1 ⟨hx1,po,pb,co,cbs,rfl,N⟩
 have hle1:=hx1.le
 have s1:FP Tryz.prog (H1++[ABlk.live 4 [GG]]) 81 (.ptr H1.length 0 0) (.agg (I9 (nlV po (zP m)) (nlV co (zC m))))=some (H1++[ABlk.live 4 [I9 (nlV po (zP m)) (nlV co (zC m))]]):=by
  rw[AHA (CZ _ _) rfl (MB _ _) (MB _ _),TJ]
 simp -implicitDefEqProofs only[vQ,BD,↓reduceIte,jB,enP,jT,PU,s1,AF1,AC5,A3Q]
 have hl3:(H1++[ABlk.live 4 [I9 (nlV po (zP m)) (nlV co (zC m))]]).length=H1.length+1:=by simp
 have hk3:(H1++[ABlk.live 4 [I9 (nlV po (zP m)) (nlV co (zC m))]]++[ABlk.live 1 [GH]]).length=H1.length+2:=by simp
 have hx3:ext H1 (H1++[ABlk.live 4 [I9 (nlV po (zP m)) (nlV co (zC m))]]++[ABlk.live 1 [GH]]):=((ext.rfl' H1).app _).app _
 have gc3:(H1++[ABlk.live 4 [I9 (nlV po (zP m)) (nlV co (zC m))]]++[ABlk.live 1 [GH]])[H1.length]? = some (.live 4 [cvR po (zP m) co (zC m) 0 0]):=CX (CZ _ _)
 have gt3:(H1++[ABlk.live 4 [I9 (nlV po (zP m)) (nlV co (zC m))]]++[ABlk.live 1 [GH]])[(H1++[ABlk.live 4 [I9 (nlV po (zP m)) (nlV co (zC m))]]).length]? = some (.live 1 [[.sl .nil 0 []]]):=CZ _ _
 generalize H1++[ABlk.live 4 [I9 (nlV po (zP m)) (nlV co (zC m))]]++[ABlk.live 1 [GH]]=H3 at hk3 hx3 gc3 gt3 ⊢
 generalize (H1++[ABlk.live 4 [I9 (nlV po (zP m)) (nlV co (zC m))]]).length=nb at hl3 gt3 ⊢
 have hlt : ∀ b,NLB po pb (zP m) b∨NLB co cbs (zC m) b→b < H1.length:=fun b hb=>by
  rcases hb with hb | hb
  ·exact(N.np.lt hb).2
  ·exact(N.nc.lt hb).2
 have X3:Sx h H3 m c t vb tb b8 b9 H0.length H3.length H1.length nb po co pb cbs (zP m) (zC m) 0 0 (.sl .nil 0 []) :=
  ⟨FD hx3 (FD hx1 Y.gm),FD hx3 (FD hx1 Y.gv),FD hx3 (FD hx1 Y.gt),FD hx3 (FD hx1 Y.g8),FD hx3 (FD hx1 Y.g9),o1,o2,o3,o4,o5,
   (N.ext hx3).cs gc3 gt3 (by omega) (fun b hb=>by have:=hlt b hb; omega),hle1,by omega,by omega,by omega,fun b hb=>by have:=hlt b (.inl (.inr hb)); omega,fun b hb=>by have:=hlt b (.inr (.inr hb)); omega,
   fun q=>by have:=hlt po (.inl (.inl ⟨q,rfl⟩)); omega,fun q=>by have:=hlt co (.inr (.inl ⟨q,rfl⟩)); omega,jL _,(Y.hx.trans hx1).trans hx3⟩
 generalize H1.length=ob at X3 hl3 hk3 hle1 hlt gc3
 have hob:ob < H3.length:=by omega
 have hnb:nb < H3.length:=by omega
 have h3l:=X3.hx.le
 clear gc3 gt3 hx3 hlt s1 hle1 hl3 hk3
 have hlp:=N.np.len
 have hlc:=N.nc.len
 rw[hzl] at hlp
 rw[hzc] at hlc
 clear N hx1
 refine GZ 0 (fun F H => ∃ u w,F 4 = .ptr h.length 0 0∧F 5 = .ptr vb 0 0∧F 8 = .ptr b8 0 0∧F 9 = .ptr b9 0 0∧F 12 = .ptr ob 0 0∧F 13 = .ptr nb 0 0∧F 14=u∧F 15 = .bool (rs.any PtR.bad)∧Sx h H m c t vb tb b8 b9 H0.length H3.length ob nb po co pb cbs (LW rs (stO c t).P) (zC m) 0 0 w∧outG 1 MM H3 (rs.map PtR.hit) u H∧outG 1 L8 H3 (rs.map PtR.next) w H∧KC PtR.err rs=0)
  (fun F H => ∃ e,F 8 = .ptr b8 0 0∧F 9 = .ptr b9 0 0∧F 10 = .int .i64 e∧e≠0∧KC PtR.err rs=e∧H[b8]? = some (.live 4 [GG])∧H[b9]? = some (.live 1 [GH])∧ext h H) ?_ ?_ ?_
 ·refine DL (fun n F H => ∃ i u w,n+i=m.pts.length∧F 3 = .sl sm 2 (env.map G8)∧F 4 = .ptr h.length 0 0∧F 5 = .ptr vb 0 0∧F 6 = .ptr tb 0 0∧F 8 = .ptr b8 0 0∧F 9 = .ptr b9 0 0∧F 12 = .ptr ob 0 0∧F 13 = .ptr nb 0 0∧F 14=u∧F 15 = .bool ((rs.take i).any PtR.bad)∧F 16 = .int .i64 (i:Nat) ∧
    Sx h H m c t vb tb b8 b9 H0.length H3.length ob nb po co pb cbs (mix (LW rs (stO c t).P) (zP m) i) (zC m) 0 0 w∧outG 1 MM H3 ((rs.take i).map PtR.hit) u H∧outG 1 L8 H3 ((rs.take i).map PtR.next) w H∧(∀ b,isB u b→¬ isB w b)∧KC PtR.err rs=KC PtR.err (rs.drop i)) m.pts.length
   ⟨0,.sl .nil 0 [],.sl .nil 0 [],by simp,by simp -implicitDefEqProofs only[vQ,↓reduceIte,jB],by simp -implicitDefEqProofs only[AA,↓reduceIte,jB],by simp -implicitDefEqProofs only[AA,↓reduceIte,jB],by simp -implicitDefEqProofs only[AA,↓reduceIte,jB],by simp -implicitDefEqProofs only[AA,↓reduceIte,jB],by simp -implicitDefEqProofs only[AA,↓reduceIte,jB],by simp -implicitDefEqProofs only[AA,↓reduceIte,jB],by simp -implicitDefEqProofs only[AA,↓reduceIte,jB],by simp -implicitDefEqProofs only[AA,↓reduceIte,jB],by simp -implicitDefEqProofs only[AA,↓reduceIte,jB] <;> rfl,by simp -implicitDefEqProofs only[AA,↓reduceIte] <;> rfl,X3,outG.nil _ _ _ _,outG.nil _ _ _ _,fun b hb=>hb.elim,rfl⟩ ?_
  clear X3
  rintro n F H ⟨i,u,w,hi,f3,f4,f5,f6,f8,f9,f12,f13,f14,f15,f16,S,hu,hw,hdis,hfst⟩
  simp -implicitDefEqProofs only[vQ,BD,↓reduceIte,jB,enP,OE,GU,f4,f16,S.m0,jH]
  refine CU (fun hc => ?_) (fun hc => ?_)
  ·have hi':i < m.pts.length:=by simpa using hc
   have hir:i < rs.length:=by omega
   have hiP:i < (stO c t).P.length:=by omega
   have hic:i < c.pts.length:=by omega
   have hit:i < t.last.length:=by omega
   have hip:i < pb.length:=by omega
   have hiz:i < (zP m).length:=by omega
   have hp:=hm.pts _ (jP hi')
   have hls:(stO c t).ls[i]'(by omega)=t.last[i].l:=by simp [stO]
   have hPi:(stO c t).P[i]=c.pts[i].l:=by simp [stO]
   have hri:rs[i]=ptE m.pts[i] t.last[i].l env:=by
    have:=hrg i hi' (by omega) (by rw[← hrs]; omega)
    rw[hls] at this
    rw[← this]
    congr 1
   have hcall:=AU0 G m.pts[i] hp t.last[i].l t.last[i].m env sm H (ht.len _ (jP hit)) henv hsg
   rw[← hri] at hcall
   unfold ptV at hcall
   rw[O4 _ _ _ hir] at hfst
   have hbad:(rs.take (i+1)).any PtR.bad=((rs.take i).any PtR.bad || rs[i].bad):=by rw[zN hir,List.any_append]; simp
   simp -implicitDefEqProofs only[vQ]
   refine EY (by kernel_rfl) ?_
   simp -implicitDefEqProofs only[vQ,KP,↓reduceIte,jB,jM,enP,PG,GU,PO,Q5,f3,f4,f6,f16,S.m0,DN hi',FU AC7 ZP JL hi',S.t0,DN hit,CY KO hit,PT]
   refine⟨_,hcall,?_⟩
   simp -implicitDefEqProofs only[vQ,zB,zD,KP,BD,↓reduceIte,jB,jM,enP]
   cases he:(rs[i].err == 0)
   ·have hne:rs[i].err≠0:=by simpa using he
    rw[if_neg hne] at hfst
    simp -implicitDefEqProofs only[vQ,BD,↓reduceIte,jB,enP,jT,bne,he,VY,AF1,f8,f9,stZ S.g8 rfl,ADY (CV S.g9 (show b9≠b8 by omega)) rfl]
    exact⟨rs[i].err,by trivial,by trivial,by trivial,hne,hfst,CV (EG S.g8) (show b8≠b9 by omega),EG (CV S.g9 (show b9≠b8 by omega)),(S.hx.set (by omega) _).set (by omega) _⟩
   have hz:rs[i].err=0:=by simpa using he
   rw[if_pos hz] at hfst
   have kh:=S.kh
   obtain⟨u2,Ha,hap,hu2,hk,hla,hna,⟨ou,lu,rfl⟩,hxa⟩:=hu.app2 AIQ ABB AN0 AJ3 (by omega) (by rw[jH,zJ]; omega) kh rs[i].hit
   rw[hbs] at hu2
   have hap':GM Tryz.prog true H 67 67 u (.sl .full 1 [[.sl (nm rs[i].hit) 1 (rs[i].hit.map JI)]])=some (.own ou 0 lu,Ha):=hap
   have Sa:=S.keep (H':=Ha) (fun b x hb hg=>hk b x hg (fun q=>by have:=hu.lt q; omega)) (by omega) (hxa h (by omega) S.hx)
   have hwa:=hw.keepA hk (fun b h1 h2=>hdis b h2 h1)
   obtain⟨w2,Hb,hapb,hw2,hkb,hlb,hnb2,⟨ow,lw,rfl⟩,hxb⟩:=hwa.app2 AIQ ABB AN0 AJ3 (by omega) (by rw[jH,zJ]; omega) (by omega) rs[i].next
   rw[hbs] at hw2
   have hapb':GM Tryz.prog true Ha 67 67 w (.sl .full 1 [[.sl (nm rs[i].next) 1 (rs[i].next.map qencI)]])=some (.own ow 0 lw,Hb):=hapb
   have Sb:=Sa.keep (H':=Hb) (fun b x hb hg=>hkb b x hg (fun q=>by have:=hwa.lt q; omega)) (by omega) (hxb h (by omega) Sa.hx)
   have hub:=hu2.keepA hkb (fun b h1 h2=>by
    have e1:=hna b h1
    have e2:=hw.lt h2
    omega)
   have Sc:=Sb.setT (.own ow 0 lw)
   have huc:=hub.setB (b:=nb) hnb (.live 1 [[.own ow 0 lw]])
   have hwc:=hw2.setB (b:=nb) hnb (.live 1 [[.own ow 0 lw]])
   have hst:FP Tryz.prog Hb 67 (.ptr nb 0 0) (.own ow 0 lw)=some (Hb.set nb (.live 1 [[.own ow 0 lw]])):=MK (row := [w]) (ZE _ _ _) AN7 Sb.cs.gt (by simp)
   have hdis2 : ∀ b,isB (.own ou 0 lu) b→¬ isB (.own ow 0 lw) b:=fun b h1 h2=>by
    have e1:=hna b h1
    have e2:=hnb2 b h2
    omega
   simp -implicitDefEqProofs only[vQ,CP,BD,↓reduceIte,jB,jU,enP,Q5,jT,bne,he,f14,AYH,hap',f13,Sa.cs.lt0,hapb',hst,f15]
   generalize Hb.set nb (.live 1 [[.own ow 0 lw]])=Hc at Sc huc hwc ⊢
   clear Sa Sb hwa hub hst hap hap' hapb hapb' hu hw hdis hu2 hw2 hk hkb S
   refine S9 (fun F H=>H=Hc∧F 3 = .sl sm 2 (env.map G8)∧F 4 = .ptr h.length 0 0∧F 5 = .ptr vb 0 0∧F 6 = .ptr tb 0 0∧F 8 = .ptr b8 0 0∧F 9 = .ptr b9 0 0∧F 12 = .ptr ob 0 0∧F 13 = .ptr nb 0 0∧F 14 = .own ou 0 lu∧F 15 = .bool ((rs.take (i+1)).any PtR.bad)∧F 16 = .int .i64 (i:Nat)∧F 17 = .sl (nm rs[i].hit) 1 (rs[i].hit.map JI)) ?_ ?_
   ·cases hq:(rs.take i).any PtR.bad
    ·rw[hq,qR] at hbad
     simp -implicitDefEqProofs only[vQ,BD,↓reduceIte,jB]
     exact⟨trivial,by trivial,by trivial,by trivial,by trivial,by trivial,by trivial,by trivial,by trivial,by trivial,by rw[hbad],by trivial,by trivial⟩
    ·rw[hq,wU] at hbad
     simp -implicitDefEqProofs only[vQ,BD,EW,↓reduceIte,jB]
     exact⟨trivial,by trivial,by trivial,by trivial,by trivial,by trivial,by trivial,by trivial,by trivial,by trivial,by rw[hbad],by trivial,by trivial⟩
   clear f3 f4 f5 f6 f8 f9 f12 f13 f14 f15 f16
   rintro F H ⟨rfl,f3,f4,f5,f6,f8,f9,f12,f13,f14,f15,f16,f17⟩
   have hmx:=QZ (ys:=LW rs (stO c t).P) (xs:=zP m) (i:=i) (by omega) (by omega)
   have hmi:=WR (ys:=LW rs (stO c t).P) (xs:=zP m) (i:=i) (j:=i) (by omega) (jL _) hiz (by omega)
   have hms:=QY (ys:=LW rs (stO c t).P) (xs:=zP m) (i:=i) (by omega) hiz (by omega)
   have hsg2:=UL rs (stO c t).P i hir hiP (by omega)
   have hz2:(zP m)[i]=zeros m.pts[i].bins.length:=by simp [zP]
   have hpe:=hsh.pe i hiP hi'
   obtain⟨M,hmm,hmx,hmi,hms⟩ : ∃ M,mix (LW rs (stO c t).P) (zP m) i=M∧M.length=(zP m).length∧(∀ h:i < M.length,M[i]=(zP m)[i])∧M.set i (LW rs (stO c t).P)[i]=mix (LW rs (stO c t).P) (zP m) (i+1):=⟨_,rfl,hmx,fun _=>hmi,hms⟩
   rw[hmm] at Sc
   rw[hsg2] at hms
   have hhit:rs[i].hit.length≤1048576:=by rw[hri]; have:=AIY m.pts[i] t.last[i].l env; have:=hp.num; omega
   have hnd:rs[i].hit.Nodup:=by rw[hri]; exact ABF _ _ _
   have hhl : ∀ x∈rs[i].hit,x < (stO c t).P[i].length:=fun x hx=>by rw[hri] at hx; rw[hpe]; exact AIX _ _ _ x hx
   have hwn:Wn (stO c t).P[i]:=hsh.wp _ (jP hiP)
   have hrwl:=QG rs[i].hit (stO c t).P[i]
   have hrow:=fun k=>XI k rs[i].hit (stO c t).P[i] hnd hhl
   have hzn:=RF m.pts[i].bins.length
   have hbn:=hp.num
   obtain⟨R,hR⟩ : ∃ R,R=rowP rs[i].hit (stO c t).P[i]:=⟨_,rfl⟩
   rw[← hR] at hms hrwl
   have hrz:R.length=(zeros m.pts[i].bins.length).length:=by omega
   simp -implicitDefEqProofs only[vQ,BD]
   refine GZ 2 (fun F H=>F 3 = .sl sm 2 (env.map G8)∧F 4 = .ptr h.length 0 0∧F 5 = .ptr vb 0 0∧F 6 = .ptr tb 0 0∧F 8 = .ptr b8 0 0∧F 9 = .ptr b9 0 0∧F 12 = .ptr ob 0 0∧F 13 = .ptr nb 0 0∧F 14 = .own ou 0 lu∧F 15 = .bool ((rs.take (i+1)).any PtR.bad)∧F 16 = .int .i64 (i:Nat) ∧
    Sx h H m c t vb tb b8 b9 H0.length H3.length ob nb po co pb cbs (M.set i R) (zC m) 0 0 (.own ow 0 lw)∧outG 1 MM H3 ((rs.take (i+1)).map PtR.hit) (.own ou 0 lu) H∧outG 1 L8 H3 ((rs.take (i+1)).map PtR.next) (.own ow 0 lw) H) (fun _ _=>False) ?_ ?_ (fun _ _ hh=>hh.elim)
   ·have e0:M.set i (mix R (zeros m.pts[i].bins.length) 0)=M:=by
     show M.set i (zeros m.pts[i].bins.length)=M
     rw[← hz2,← hmi (by omega),List.set_getElem_self]
    refine DL (fun n F H => ∃ k,n+k=m.pts[i].bins.length∧F 3 = .sl sm 2 (env.map G8)∧F 4 = .ptr h.length 0 0∧F 5 = .ptr vb 0 0∧F 6 = .ptr tb 0 0∧F 8 = .ptr b8 0 0∧F 9 = .ptr b9 0 0∧F 12 = .ptr ob 0 0∧F 13 = .ptr nb 0 0∧F 14 = .own ou 0 lu∧F 15 = .bool ((rs.take (i+1)).any PtR.bad)∧F 16 = .int .i64 (i:Nat)∧F 17 = .sl (nm rs[i].hit) 1 (rs[i].hit.map JI)∧F 21 = .int .i64 (k:Nat) ∧
      Sx h H m c t vb tb b8 b9 H0.length H3.length ob nb po co pb cbs (M.set i (mix R (zeros m.pts[i].bins.length) k)) (zC m) 0 0 (.own ow 0 lw)∧outG 1 MM H3 ((rs.take (i+1)).map PtR.hit) (.own ou 0 lu) H∧outG 1 L8 H3 ((rs.take (i+1)).map PtR.next) (.own ow 0 lw) H) m.pts[i].bins.length
     ⟨0,by simp,by simp -implicitDefEqProofs only[AA,↓reduceIte,jB,f3],by simp -implicitDefEqProofs only[AA,↓reduceIte,jB,f4],by simp -implicitDefEqProofs only[AA,↓reduceIte,jB,f5],by simp -implicitDefEqProofs only[AA,↓reduceIte,jB,f6],by simp -implicitDefEqProofs only[AA,↓reduceIte,jB,f8],by simp -implicitDefEqProofs only[AA,↓reduceIte,jB,f9],by simp -implicitDefEqProofs only[AA,↓reduceIte,jB,f12],by simp -implicitDefEqProofs only[AA,↓reduceIte,jB,f13],by simp -implicitDefEqProofs only[AA,↓reduceIte,jB,f14],by simp -implicitDefEqProofs only[AA,↓reduceIte,jB,f15],by simp -implicitDefEqProofs only[AA,↓reduceIte,jB,f16],by simp -implicitDefEqProofs only[AA,↓reduceIte,jB,f17],by simp -implicitDefEqProofs only[AA,↓reduceIte] <;> rfl,by rw[e0]; exact Sc,huc,hwc⟩ ?_
    clear Sc huc hwc f3 f4 f5 f6 f8 f9 f12 f13 f14 f15 f16 f17
    rintro n' F H ⟨k,hk,f3,f4,f5,f6,f8,f9,f12,f13,f14,f15,f16,f17,f21,S,hu,hw⟩
    have hkl:=QZ (ys:=R) (xs:=zeros m.pts[i].bins.length) (i:=k) hrz (by omega)
    have hiM:i < (M.set i (mix R (zeros m.pts[i].bins.length) k)).length:=by rw[qW]; omega
    have hcur:(M.set i (mix R (zeros m.pts[i].bins.length) k))[i]=mix R (zeros m.pts[i].bins.length) k:=List.getElem_set_self _
    obtain⟨q1,q2,q3,q4⟩:=S.rowP hiM hip
    rw[hcur] at q3 q4
    have hll2:(mix R (zeros m.pts[i].bins.length) k).length=m.pts[i].bins.length:=by omega
    simp -implicitDefEqProofs only[vQ,BD,↓reduceIte,jB,enP,PO,OO,f12,f16,f21,q1,q2,q3,IZ.2,hll2]
    refine CU (fun hc => ?_) (fun hc => ?_)
    ·have hk':k < m.pts[i].bins.length:=by simpa using hc
     have hkP:k < c.pts[i].l.length:=by rw[← hPi]; omega
     have hin:0≤c.pts[i].l[k]∧c.pts[i].l[k]≤1099511627776:=by
      rw[hPi] at hwn
      exact hwn _ (jP hkP)
     have hRk:R[k]'(by omega)=if decide (k∈rs[i].hit)=true then rz c.pts[i].l[k] else c.pts[i].l[k]:=by
      rw[← getD_at R k (by omega),hR,hrow k,hPi,getD_at _ _ hkP]
      simp only[decide_eq_true_eq]
     have hset:=QY (ys:=R) (xs:=zeros m.pts[i].bins.length) (i:=k) hrz (by omega) (by omega)
     have hix:=AW6 q4 (k:=k) (by omega)
     rw[hll2] at hix
     have hst:=AVN q4 (k:=k) (by omega) (R[k]'(by omega))
     rw[hset] at hst
     have S2:=S.setP hip (mix R (zeros m.pts[i].bins.length) (k+1)) (fun _=>by rw[hcur,QZ hrz (by omega),hkl])
     rw[List.set_set] at S2
     have hu2:=hu.setB (b:=pb[i]) (S.hp _ (jP hip)) (.live 1 ((mix R (zeros m.pts[i].bins.length) (k+1)).map qencI))
     have hw2:=hw.setB (b:=pb[i]) (S.hp _ (jP hip)) (.live 1 ((mix R (zeros m.pts[i].bins.length) (k+1)).map qencI))
     simp -implicitDefEqProofs only[vQ]
     refine EY (by kernel_rfl) ?_
     simp -implicitDefEqProofs only[vQ,↓reduceIte,jB,jM,enP,IB,PO,OO,f5,f12,f16,f17,f21,q1,q2,q3,hll2,S.v0,DN hic,CY KO hic,PT,DN hkP,CY ag3 hkP,XB,ARW]
     refine⟨_,has_ref G (rs[i].hit.map fun n:Nat=>(n:Int)) _ (k:Nat) H (by rw[jH]; exact hhit),?_⟩
     rw[AXH]
     try simp -implicitDefEqProofs only[]
     refine⟨_,WQ G c.pts[i].l[k] (decide (k∈rs[i].hit)) H hin.1 hin.2,?_⟩
     rw[← hRk]
     try simp -implicitDefEqProofs only[vQ,BD,↓reduceIte,jB,enP,jT,hix,hst,f21,wrap_succ (show k < 9223372036854775807 by omega)]
     exact⟨n' - 1,by omega,k+1,by omega,by trivial,by trivial,by trivial,by trivial,by trivial,by trivial,by trivial,by trivial,by trivial,by trivial,by trivial,by first | trivial | exact f17 | (rw[← ARW]; exact f17),by trivial,S2,hu2,hw2⟩
    ·have hk':k=(zeros m.pts[i].bins.length).length:=by
      have : ¬ k < m.pts[i].bins.length:=by simpa using hc
      omega
     rw[hk',Q3 hrz] at S
     simp -implicitDefEqProofs only[vQ,↓reduceIte,jB]
     exact⟨f3,f4,f5,f6,f8,f9,f12,f13,f14,f15,f16,S,hu,hw⟩
   ·clear Sc huc hwc f3 f4 f5 f6 f8 f9 f12 f13 f14 f15 f16 f17
    rintro F H ⟨f3,f4,f5,f6,f8,f9,f12,f13,f14,f15,f16,S,hu,hw⟩
    rw[hms] at S
    simp -implicitDefEqProofs only[vQ,BD,↓reduceIte,jB,enP,f16,wrap_succ (show i < 9223372036854775807 by omega)]
    exact⟨n - 1,by omega,i+1,_,_,by omega,by trivial,by trivial,by trivial,by trivial,by trivial,by trivial,by trivial,by trivial,by trivial,by trivial,by trivial,S,hu,hw,hdis2,hfst⟩
  ·have hi':i=(zP m).length:=by
    have : ¬ i < m.pts.length:=by simpa using hc
    omega
   rw[jW (by omega)] at f15 hu hw
   rw[jV (by omega)] at hfst
   rw[hi',Q3 (by omega)] at S
   simp -implicitDefEqProofs only[vQ,↓reduceIte,jB]
   exact⟨u,w,f4,f5,f8,f9,f12,f13,f14,f15,S,hu,hw,hfst⟩
 ·rintro F H ⟨u,w,f4,f5,f8,f9,f12,f13,f14,f15,S,hu,hw,hfst⟩
  simp -implicitDefEqProofs only[vQ,BD,↓reduceIte]
  refine GZ 4 (fun F H=>F 5 = .ptr vb 0 0∧F 8 = .ptr b8 0 0∧F 9 = .ptr b9 0 0∧F 12 = .ptr ob 0 0∧F 13 = .ptr nb 0 0∧F 15 = .bool (rs.any PtR.bad)∧Sx h H m c t vb tb b8 b9 H0.length H3.length ob nb po co pb cbs (LW rs (stO c t).P) (NK m (rs.map PtR.hit) (stO c t).C) 0 0 w∧outG 1 L8 H3 (rs.map PtR.next) w H) (fun _ _=>False) ?_ ?_ (fun _ _ hh=>hh.elim)
  ·refine DL (fun n F H => ∃ i,n+i=m.crs.length∧F 4 = .ptr h.length 0 0∧F 5 = .ptr vb 0 0∧F 8 = .ptr b8 0 0∧F 9 = .ptr b9 0 0∧F 12 = .ptr ob 0 0∧F 13 = .ptr nb 0 0∧F 14=u∧F 15 = .bool (rs.any PtR.bad)∧F 22 = .int .i64 (i:Nat) ∧
     Sx h H m c t vb tb b8 b9 H0.length H3.length ob nb po co pb cbs (LW rs (stO c t).P) (mix (NK m (rs.map PtR.hit) (stO c t).C) (zC m) i) 0 0 w∧outG 1 MM H3 (rs.map PtR.hit) u H∧outG 1 L8 H3 (rs.map PtR.next) w H) m.crs.length
    ⟨0,by simp,by simp -implicitDefEqProofs only[AA,↓reduceIte,jB,f4],by simp -implicitDefEqProofs only[AA,↓reduceIte,jB,f5],by simp -implicitDefEqProofs only[AA,↓reduceIte,jB,f8],by simp -implicitDefEqProofs only[AA,↓reduceIte,jB,f9],by simp -implicitDefEqProofs only[AA,↓reduceIte,jB,f12],by simp -implicitDefEqProofs only[AA,↓reduceIte,jB,f13],by simp -implicitDefEqProofs only[AA,↓reduceIte,jB,f14],by simp -implicitDefEqProofs only[AA,↓reduceIte,jB,f15],by simp -implicitDefEqProofs only[AA,↓reduceIte] <;> rfl,S,hu,hw⟩ ?_
   clear S hu hw f4 f5 f8 f9 f12 f13 f14 f15
   rintro n F H ⟨i,hi,f4,f5,f8,f9,f12,f13,f14,f15,f22,S,hu,hw⟩
   simp -implicitDefEqProofs only[vQ,BD,↓reduceIte,jB,enP,UU,IV,f4,f22,S.m1,jH]
   refine CU (fun hc => ?_) (fun hc => ?_)
   ·have hi':i < m.crs.length:=by simpa using hc
    have hiC:i < (stO c t).C.length:=by omega
    have hic:i < c.crs.length:=by omega
    have hip:i < cbs.length:=by omega
    have hiz:i < (zC m).length:=by omega
    have hcg:=hg.crs _ (jP hi')
    have hfs:=hg.full.szs hcg.here
    have hzl2:=LG m m.crs[i].pts
    have htwo:=hcg.two
    have hfour:=hcg.four
    have hpr:=hcg.prod
    have hcr:=hm.crs _ (jP hi')
    have hxe:=hcr.excl
    have hCi:(stO c t).C[i]=c.crs[i].l:=by simp [stO]
    have hce:=hsh.ce i hiC hi'
    have hwn:Wn (stO c t).C[i]:=hsh.wc _ (jP hiC)
    have hpos:0 < m.pts.length:=by
     have:=hcg.here (m.crs[i].pts[0]'(by omega)) (jP _)
     omega
    obtain⟨uo,rfl,guo⟩ : ∃ uo,u = .own uo 0 (rs.map PtR.hit).length∧H[uo]? = some (.live 1 ((rs.map PtR.hit).map MM)):=by
     rcases hu with⟨q,_⟩ | ⟨_,o,_,e,g⟩
     ·have q2:(rs.map PtR.hit).length=0:=by rw[q]; rfl
      rw[jH] at q2; omega
     ·exact⟨o,e,g⟩
    have h64 : ∀ x∈rs.map PtR.hit,x.length≤1048576:=fun x hx=>by
     obtain⟨r,hr,rfl⟩:=zL.1 hx
     rw[hrs] at hr
     obtain⟨p,hp,rfl⟩:=zL.1 hr
     have h1:=AIY p.1 p.2 env
     have h2:=(hm.pts _ (List.of_mem_zip hp).1).num
     omega
    have hhl:(rs.map PtR.hit).length=m.pts.length:=by rw[jH]; exact hrl
    have hmx:=QZ (ys:=NK m (rs.map PtR.hit) (stO c t).C) (xs:=zC m) (i:=i) (by omega) (by omega)
    have hmi:=WR (ys:=NK m (rs.map PtR.hit) (stO c t).C) (xs:=zC m) (i:=i) (j:=i) (by omega) (jL _) hiz (by omega)
    have hms:=QY (ys:=NK m (rs.map PtR.hit) (stO c t).C) (xs:=zC m) (i:=i) (by omega) hiz (by omega)
    have hsg2:=UN m (rs.map PtR.hit) (stO c t).C i hi' hiC (by omega)
    have hz2:(zC m)[i]=zeros (H8 (szs m m.crs[i].pts)):=by simp [zC]
    obtain⟨M,hmm,hmx,hmi,hms⟩ : ∃ M,mix (NK m (rs.map PtR.hit) (stO c t).C) (zC m) i=M∧M.length=(zC m).length∧(∀ h:i < M.length,M[i]=(zC m)[i])∧M.set i (NK m (rs.map PtR.hit) (stO c t).C)[i]=mix (NK m (rs.map PtR.hit) (stO c t).C) (zC m) (i+1):=⟨_,rfl,hmx,fun _=>hmi,hms⟩
    rw[hmm] at S
    rw[hsg2] at hms
    have hrwl:=rowC_len m m.crs[i] (rs.map PtR.hit) (stO c t).C[i]
    have hrow:=AHG m m.crs[i] (rs.map PtR.hit) (stO c t).C[i]
    have hzn:=RF (H8 (szs m m.crs[i].pts))
    obtain⟨pn,hpn⟩ : ∃ pn,pn=H8 (szs m m.crs[i].pts):=⟨_,rfl⟩
    rw[← hpn] at hpr hce hz2 hzn
    obtain⟨R,hR⟩ : ∃ R,R=rowC m m.crs[i] (rs.map PtR.hit) (stO c t).C[i]:=⟨_,rfl⟩
    rw[← hR] at hms hrwl
    have hrz:R.length=(zeros pn).length:=by omega
    have Sa:=S.app [ABlk.live 3 [GV m.crs[i]]]
    have hua:=hu.app [ABlk.live 3 [GV m.crs[i]]]
    have hwa:=hw.app [ABlk.live 3 [GV m.crs[i]]]
    have gx:=CZ H (ABlk.live 3 [GV m.crs[i]])
    have kh:=S.kh
    have guo2:=CJ guo
    simp -implicitDefEqProofs only[vQ,BD,↓reduceIte,jB,enP,P5,IV,jT,f4,f22,S.m1,DN hi',FU AAZ XV KH hi',AUX,AST _ _ [.str ⟨#[]⟩,.sl .nil 0 [],.sl .nil 0 []] rfl]
    generalize H++[ABlk.live 3 [GV m.crs[i]]]=Ha at Sa hua hwa gx ⊢
    have hxb:H.length ∉ cbs:=fun q=>by have:=S.hc _ q; omega
    have hxo:H.length≠uo:=by omega
    generalize H.length=xb at gx hxb hxo ⊢
    have huc : ∀ k,k < cbs.length→True:=fun _ _=>trivial
    clear guo guo2 hu hw S kh
    refine GZ 6 (fun F H=>F 4 = .ptr h.length 0 0∧F 5 = .ptr vb 0 0∧F 8 = .ptr b8 0 0∧F 9 = .ptr b9 0 0∧F 12 = .ptr ob 0 0∧F 13 = .ptr nb 0 0∧F 14 = .own uo 0 (rs.map PtR.hit).length∧F 15 = .bool (rs.any PtR.bad)∧F 22 = .int .i64 (i:Nat) ∧
     Sx h H m c t vb tb b8 b9 H0.length H3.length ob nb po co pb cbs (LW rs (stO c t).P) (M.set i R) 0 0 w∧outG 1 MM H3 (rs.map PtR.hit) (.own uo 0 (rs.map PtR.hit).length) H∧outG 1 L8 H3 (rs.map PtR.next) w H) (fun _ _=>False) ?_ ?_ (fun _ _ hh=>hh.elim)
    ·have e0:M.set i (mix R (zeros pn) 0)=M:=by
      show M.set i (zeros pn)=M
      rw[← hz2,← hmi (by omega),List.set_getElem_self]
     refine DL (fun n F H => ∃ k,n+k=pn∧F 4 = .ptr h.length 0 0∧F 5 = .ptr vb 0 0∧F 8 = .ptr b8 0 0∧F 9 = .ptr b9 0 0∧F 12 = .ptr ob 0 0∧F 13 = .ptr nb 0 0∧F 14 = .own uo 0 (rs.map PtR.hit).length∧F 15 = .bool (rs.any PtR.bad)∧F 22 = .int .i64 (i:Nat)∧F 23 = .ptr xb 0 0∧F 24 = .int .i64 (k:Nat)∧H[xb]? = some (.live 3 [GV m.crs[i]]) ∧
       Sx h H m c t vb tb b8 b9 H0.length H3.length ob nb po co pb cbs (LW rs (stO c t).P) (M.set i (mix R (zeros pn) k)) 0 0 w∧outG 1 MM H3 (rs.map PtR.hit) (.own uo 0 (rs.map PtR.hit).length) H∧outG 1 L8 H3 (rs.map PtR.next) w H) pn
      ⟨0,by simp,by simp -implicitDefEqProofs only[AA,↓reduceIte,jB,f4],by simp -implicitDefEqProofs only[AA,↓reduceIte,jB,f5],by simp -implicitDefEqProofs only[AA,↓reduceIte,jB,f8],by simp -implicitDefEqProofs only[AA,↓reduceIte,jB,f9],by simp -implicitDefEqProofs only[AA,↓reduceIte,jB,f12],by simp -implicitDefEqProofs only[AA,↓reduceIte,jB,f13],by simp -implicitDefEqProofs only[AA,↓reduceIte,jB,f14],by simp -implicitDefEqProofs only[AA,↓reduceIte,jB,f15],by simp -implicitDefEqProofs only[AA,↓reduceIte,jB,f22],by simp -implicitDefEqProofs only[AA,↓reduceIte,jB],by simp -implicitDefEqProofs only[AA,↓reduceIte] <;> rfl,gx,by rw[e0]; exact Sa,hua,hwa⟩ ?_
     clear Sa hua hwa gx f4 f5 f8 f9 f12 f13 f14 f15 f22
     rintro n' F H ⟨k,hk,f4,f5,f8,f9,f12,f13,f14,f15,f22,f23,f24,gx,S,hu,hw⟩
     have hkl:=QZ (ys:=R) (xs:=zeros pn) (i:=k) hrz (by omega)
     have hiM:i < (M.set i (mix R (zeros pn) k)).length:=by rw[qW]; omega
     have hcur:(M.set i (mix R (zeros pn) k))[i]=mix R (zeros pn) k:=List.getElem_set_self _
     obtain⟨q1,q2,q3,q4⟩:=S.rowC hiM hip
     rw[hcur] at q3 q4
     have hll2:(mix R (zeros pn) k).length=pn:=by omega
     simp -implicitDefEqProofs only[vQ,BD,↓reduceIte,jB,enP,PO,N8,f12,f22,f24,q1,q2,q3,IZ.2,hll2]
     refine CU (fun hc => ?_) (fun hc => ?_)
     ·have hk':k < pn:=by simpa using hc
      have hkC:k < c.crs[i].l.length:=by rw[← hCi]; omega
      have hin:0≤c.crs[i].l[k]∧c.crs[i].l[k]≤1099511627776:=by
       rw[hCi] at hwn
       exact hwn _ (jP hkC)
      have hRk:R[k]'(by omega)=if(PH m m.crs[i] (O6 (szs m m.crs[i].pts) k) && allB m.crs[i].pts (O6 (szs m m.crs[i].pts) k) (rs.map PtR.hit))=true then rz c.crs[i].l[k] else c.crs[i].l[k]:=by
       rw[← getD_at R k (by omega),hR,hrow k (by omega),hCi,getD_at _ _ hkC]
       rfl
      have hset:=QY (ys:=R) (xs:=zeros pn) (i:=k) hrz (by omega) (by omega)
      have hix:=AW6 q4 (k:=k) (by omega)
      rw[hll2] at hix
      have hst:=AVN q4 (k:=k) (by omega) (R[k]'(by omega))
      rw[hset] at hst
      have S2:=S.setC hip (mix R (zeros pn) (k+1)) (fun _=>by rw[hcur,QZ hrz (by omega),hkl])
      rw[List.set_set] at S2
      have hu2:=hu.setB (b:=cbs[i]) (S.hc _ (jP hip)) (.live 1 ((mix R (zeros pn) (k+1)).map qencI))
      have hw2:=hw.setB (b:=cbs[i]) (S.hc _ (jP hip)) (.live 1 ((mix R (zeros pn) (k+1)).map qencI))
      have gx2:=CV (y := .live 1 ((mix R (zeros pn) (k+1)).map qencI)) gx (show xb≠cbs[i] from fun q=>hxb (by rw[q]; exact jP hip))
      have hins:=ZL (szs m m.crs[i].pts) k (fun n hn=>(hfs n hn).1)
      have htl:=MR hins
      have guo:H[uo]? = some (.live 1 ((rs.map PtR.hit).map MM)):=by
       rcases hu with⟨q,_⟩ | ⟨_,o,_,e,g⟩
       ·have q2:(rs.map PtR.hit).length=0:=by rw[q]; rfl
        rw[jH] at q2; omega
       ·cases e; exact g
      simp -implicitDefEqProofs only[vQ,BD,↓reduceIte,jB,enP,f4,f23,f24,ldM S.gm,ldC gx]
      refine(AG8 G m m.crs[i] k H hcg.here hg.full (by omega) (by omega) (by omega)).use ?_
      simp -implicitDefEqProofs only[vQ,BD,↓reduceIte]
      have hcnt:=AFP G m m.crs[i] (O6 (szs m m.crs[i].pts) k) .any H hcg.here hins (by omega) (by omega)
      have hht:=AXD G m.crs[i] (O6 (szs m m.crs[i].pts) k) .any (rs.map PtR.hit) uo H guo (fun p hp=>by have:=hcg.here p hp; rw[hhl]; exact this) (by omega) h64 (by omega)
      refine EY (by kernel_rfl) ?_
      simp -implicitDefEqProofs only[vQ,CP,↓reduceIte,jB,jM,enP,IB,PO,N8,f4,f5,f12,f14,f22,f23,f24,q1,q2,q3,hll2,S.v1,DN hic,CY KO hic,PT,DN hkC,CY ag3 hkC,XB,ldM S.gm,ldC gx]
      refine⟨_,hcnt,?_⟩
      try simp -implicitDefEqProofs only[]
      cases h1:PH m m.crs[i] (O6 (szs m m.crs[i].pts) k)
      ·rw[h1,qK] at hRk
       simp -implicitDefEqProofs only[vQ,AA3,CP,EW,↓reduceIte,jB,jM,enP,IB]
       refine⟨_,WQ G c.crs[i].l[k] false H hin.1 hin.2,?_⟩
       rw[← hRk]
       try simp -implicitDefEqProofs only[vQ,BD,↓reduceIte,jB,enP,jT,hix,hst,f24,wrap_succ (show k < 9223372036854775807 by omega)]
       exact⟨n' - 1,by omega,k+1,by omega,by trivial,by trivial,by trivial,by trivial,by trivial,by trivial,by trivial,by trivial,by trivial,by trivial,by trivial,gx2,S2,hu2,hw2⟩
      ·rw[h1,qF] at hRk
       simp -implicitDefEqProofs only[vQ,QN,CP,↓reduceIte,jB,jM,enP,IB,f14,f23,ldC gx]
       refine⟨_,hht,?_⟩
       try simp -implicitDefEqProofs only[]
       refine⟨_,WQ G c.crs[i].l[k] (allB m.crs[i].pts (O6 (szs m m.crs[i].pts) k) (rs.map PtR.hit)) H hin.1 hin.2,?_⟩
       rw[← hRk]
       try simp -implicitDefEqProofs only[vQ,BD,↓reduceIte,jB,enP,jT,hix,hst,f24,wrap_succ (show k < 9223372036854775807 by omega)]
       exact⟨n' - 1,by omega,k+1,by omega,by trivial,by trivial,by trivial,by trivial,by trivial,by trivial,by trivial,by trivial,by trivial,by trivial,by trivial,gx2,S2,hu2,hw2⟩
     ·have hk':k=(zeros pn).length:=by
       have : ¬ k < pn:=by simpa using hc
       omega
      rw[hk',Q3 hrz] at S
      simp -implicitDefEqProofs only[vQ,↓reduceIte,jB]
      exact⟨f4,f5,f8,f9,f12,f13,f14,f15,f22,S,hu,hw⟩
    ·clear Sa hua hwa gx f4 f5 f8 f9 f12 f13 f14 f15 f22
     rintro F H ⟨f4,f5,f8,f9,f12,f13,f14,f15,f22,S,hu,hw⟩
     rw[hms] at S
     simp -implicitDefEqProofs only[vQ,BD,↓reduceIte,jB,enP,f22,wrap_succ (show i < 9223372036854775807 by omega)]
     exact⟨n - 1,by omega,i+1,by omega,by trivial,by trivial,by trivial,by trivial,by trivial,by trivial,by trivial,by trivial,by trivial,S,hu,hw⟩
   ·have hi':i=(zC m).length:=by
     have : ¬ i < m.crs.length:=by simpa using hc
     omega
    rw[hi',Q3 (by omega)] at S
    simp -implicitDefEqProofs only[vQ,↓reduceIte,jB]
    exact⟨f5,f8,f9,f12,f13,f15,S,hw⟩
  ·clear S hu hw f4 f5 f8 f9 f12 f13 f14 f15
   rintro F H ⟨f5,f8,f9,f12,f13,f15,S,hw⟩
   have hsm:0≤c.sam∧c.sam≤1099511627776:=hok.sm
   have hil:0≤c.ill∧c.ill≤1099511627776:=hok.il
   simp -implicitDefEqProofs only[vQ,BD,↓reduceIte,enP,AJQ,f5,S.v2]
   refine(WQ G c.sam true H hsm.1 hsm.2).use ?_
   have hst1:FP Tryz.prog H 3 (.ptr ob 0 2) (.int .i64 (rz c.sam))=some (H.set ob (.live 4 [cvR po (LW rs (stO c t).P) co (NK m (rs.map PtR.hit) (stO c t).C) (rz c.sam) 0])):=MK (QR _ _) sz3 S.cs.gc (by simp [cvR])
   have S1:=S.setN (rz c.sam) 0
   have hw1:=hw.setB (b:=ob) hob (.live 4 [cvR po (LW rs (stO c t).P) co (NK m (rs.map PtR.hit) (stO c t).C) (rz c.sam) 0])
   simp -implicitDefEqProofs only[vQ,BD,↓reduceIte,jB,enP,AJQ,jT,f12,hst1]
   generalize H.set ob (.live 4 [cvR po (LW rs (stO c t).P) co (NK m (rs.map PtR.hit) (stO c t).C) (rz c.sam) 0])=Ha at S1 hw1 ⊢
   simp -implicitDefEqProofs only[vQ,BD,↓reduceIte,jB,enP,AJP,f5,S1.v3,f15]
   refine(WQ G c.ill (rs.any PtR.bad) Ha hil.1 hil.2).use ?_
   obtain⟨il,hill⟩ : ∃ z,z=if rs.any PtR.bad=true then rz c.ill else c.ill:=⟨_,rfl⟩
   rw[← hill]
   have hst2:FP Tryz.prog Ha 3 (.ptr ob 0 3) (.int .i64 il)=some (Ha.set ob (.live 4 [cvR po (LW rs (stO c t).P) co (NK m (rs.map PtR.hit) (stO c t).C) (rz c.sam) il])):=MK (QR _ _) sz3 S1.cs.gc (by simp [cvR])
   have S2:=S1.setN (rz c.sam) il
   have hw2:=hw1.setB (b:=ob) hob (.live 4 [cvR po (LW rs (stO c t).P) co (NK m (rs.map PtR.hit) (stO c t).C) (rz c.sam) il])
   simp -implicitDefEqProofs only[vQ,BD,↓reduceIte,jB,enP,AJP,jT,f12,hst2]
   generalize Ha.set ob (.live 4 [cvR po (LW rs (stO c t).P) co (NK m (rs.map PtR.hit) (stO c t).C) (rz c.sam) il])=Hb at S2 hw2 ⊢
   have lo:=S2.lo; have ln:=S2.ln
   refine XT [(13,8)] (by kernel_rfl) ?_ ?_
   ·simp -implicitDefEqProofs only[AA,↓reduceIte,jB,f8,f13,XU,AA1,ZV,and_true]
    omega
   simp -implicitDefEqProofs only[vQ,↓reduceIte,jB,jM,enP,jT,f8,f9,f12,f13,KW S2.cs.gc rfl,QC S2.cs.gt rfl,A2L S2.g8 rfl,AKU (CV S2.g9 (show b9≠b8 by omega)) rfl hw2.leaf]
   rw[XO (ba:=b8) (bb:=b9) (by simp -implicitDefEqProofs only[AA,↓reduceIte,jB,f8]) (by simp -implicitDefEqProofs only[AA,↓reduceIte,jB,f9]) (KW (CV (EG S2.g8) (show b8≠b9 by omega)) rfl) (QC (EG (CV S2.g9 (show b9≠b8 by omega))) rfl)]
   refine⟨(S2.hx.set (by omega) _).set (by omega) _,?_⟩
   obtain⟨st,hst⟩ : ∃ z,z=stp m (stO c t) env:=⟨_,rfl⟩
   have eP:LW rs (stO c t).P=st.P:=by rw[hst,hrs]; rfl
   have eC:NK m (rs.map PtR.hit) (stO c t).C=st.C:=by rw[hst,hrs]; rfl
   have eL:rs.map PtR.next=st.ls:=by rw[hst,hrs]; rfl
   have eS:rz c.sam=st.sam:=by rw[hst]; rfl
   have eI:il=st.ill:=by rw[hill,hst,hrs]; rfl
   rw[eP,eC,eS,eI] at S2 ⊢
   rw[eL] at hw2
   have np':NL H0.length ((Hb.set b8 (.live 4 [cvR po st.P co st.C st.sam st.ill])).set b9 (.live 1 [[w]])) po pb st.P:=S2.cs.np.keep fun b x hb hg=>by
    have:=S2.cs.np.lt hb
    exact CV (CV hg (by omega)) (by omega)
   have nc':NL H0.length ((Hb.set b8 (.live 4 [cvR po st.P co st.C st.sam st.ill])).set b9 (.live 1 [[w]])) co cbs st.C:=S2.cs.nc.keep fun b x hb hg=>by
    have:=S2.cs.nc.lt hb
    exact CV (CV hg (by omega)) (by omega)
   have hwf:=(hw2.setB (b:=b8) (by omega) (.live 4 [cvR po st.P co st.C st.sam st.ill])).setB (b:=b9) (by omega) (.live 1 [[w]])
   have e1:=AX6 st np' nc' h.length 0 (by omega)
   have e2:=UZ A6S hwf h.length 1 h3l
   have hz:RV m c t env=0:=by rw[hE]; unfold VG; rw[← hrs]; exact hfst
   unfold AIS
   rw[if_pos hz,← hst]
   show AV.tup [IL h.length _ 4 (.agg (cvR po st.P co st.C st.sam st.ill)),.agg [IL h.length _ 3 w],_]=_
   rw[e1,e2]
   simp -implicitDefEqProofs only[AA,↓reduceIte]
   rfl
 ·rintro F H ⟨e,f8,f9,f10,hne,hfst,g8,g9,hx⟩
  exact hend F e f8 f9 f10 (ZR (by rw[hE]; unfold VG; rw[← hrs]; exact hfst) hne) H g8 g9 hx
end Go.Proofs.YtfpagfhhhlljjaaGreatDoor.Xe
