/- Part 20 of the proof (O38, O39, O40, O41, O43); no condition. -/
import Derived.Shelf.Strings.OnBuilder
import Derived.Test.YtfpagfhhhlljjaaGreatDoorYF19
set_option linter.unusedVariables false
namespace Go.Proofs.YtfpagfhhhlljjaaGreatDoor.Ho
open Sm Bins Cov Go.RowKit
open List renaming map_cons→jD,length_cons→zT,length_map→jH
def AGV:Go.Shelf.Ren:=⟨fun | 156=>33 | 165=>62 | 166=>63 | 169=>64 | 240=>98 | 241=>99 | 276=>140 | 277=>141 | n=>n,fun | 31=>65 | 9=>9 | 3=>3 | 4=>4 | 0=>0 | 20=>20 | 72=>102 | 76=>106 | 70=>99 | 37=>100 | 75=>105 | 127=>141 | 164=>170 | 5=>5 | 80=>108 | n=>n,fun | n=>n⟩
theorem A43:Go.Proofs.Lays.n156 Tryz.prog AGV := {
 mixed:=by kernel_rfl,
 f156:=Tryz.func33.trans (congrArg some (by kernel_rfl)),
 f165:=Tryz.func62.trans (congrArg some (by kernel_rfl)),
 f166:=Tryz.func63.trans (congrArg some (by kernel_rfl)),
 f169:=Tryz.func64.trans (congrArg some (by kernel_rfl)),
 f240:=Tryz.func98.trans (congrArg some (by kernel_rfl)),
 f241:=Tryz.func99.trans (congrArg some (by kernel_rfl)),
 f276:=Tryz.func140.trans (congrArg some (by kernel_rfl)),
 f277:=Tryz.func141.trans (congrArg some (by kernel_rfl)),
 t0:=Tryz.underlying0,
 a0:=Tryz.isAgg0,
 z0:=Tryz.sizeOf0,
 v0:=Tryz.zeroValue0,
 t3:=Tryz.underlying3,
 a3:=Tryz.isAgg3,
 z3:=Tryz.sizeOf3,
 v3:=Tryz.zeroValue3,
 t4:=Tryz.underlying4,
 a4:=Tryz.isAgg4,
 z4:=Tryz.sizeOf4,
 v4:=Tryz.zeroValue4,
 t9:=Tryz.underlying9,
 a9:=Tryz.isAgg9,
 z9:=Tryz.sizeOf9,
 v9:=Tryz.zeroValue9,
 t20:=Tryz.underlying20,
 a20:=Tryz.isAgg20,
 z20:=Tryz.sizeOf20,
 v20:=Tryz.zeroValue20,
 t31:=Tryz.underlying65,
 a31:=Tryz.isAgg65,
 z31:=Tryz.sizeOf65,
 v31:=Tryz.zeroValue65,
 t37:=Tryz.underlying100,
 a37:=Tryz.isAgg100,
 z37:=Tryz.sizeOf100,
 v37:=Tryz.zeroValue100,
 t70:=Tryz.underlying99,
 a70:=Tryz.isAgg99,
 z70:=Tryz.sizeOf99,
 v70:=Tryz.zeroValue99,
 t72:=Tryz.underlying102,
 a72:=Tryz.isAgg102,
 z72:=Tryz.sizeOf102,
 v72:=Tryz.zeroValue102,
 t75:=Tryz.underlying105,
 a75:=Tryz.isAgg105,
 z75:=Tryz.sizeOf105,
 v75:=Tryz.zeroValue105,
 t76:=Tryz.underlying106,
 a76:=Tryz.isAgg106,
 z76:=Tryz.sizeOf106,
 v76:=Tryz.zeroValue106,
 t127:=Tryz.underlying141,
 a127:=Tryz.isAgg141,
 z127:=Tryz.sizeOf141,
 v127:=Tryz.zeroValue141,
 t164:=Tryz.underlying170,
 a164:=Tryz.isAgg170,
 z164:=Tryz.sizeOf170,
 v164:=Tryz.zeroValue170 }
theorem A42:Builder.Extra Tryz.prog AGV := {
 t5:=Tryz.underlying5,
 a5:=Tryz.isAgg5,
 z5:=Tryz.sizeOf5,
 v5:=Tryz.zeroValue5,
 infoByte:=by kernel_rfl,
 cellsByte:=by kernel_rfl,
 sizeByte:=by kernel_rfl,
 neB5:=by decide,
 sizeBuilder:=by kernel_rfl,
 liesBuilder:=by kernel_rfl }
def WV (xs:List ByteArray):ByteArray:=⟨(Lib.join (xs.map (·.data.toList)) [44]).toArray⟩
def AD5 (s:ByteArray):List AV := [.str s]
theorem ASH (G:Nat→AV)(xs:List ByteArray)(s:SM)(hne:xs≠[])(hN:xs.length≤4)(hl : ∀ x∈xs,x.size≤1099511627776)(h:Hp):PCall (En G) 33 [.sl s 1 (xs.map AD5),.str comma] h (.str (WV xs)):=by
 refine⟨cok 33 G (by kernel_rfl),fun g w cargs S ha => ?_⟩
 obtain⟨hsz,hget⟩:=ha
 obtain⟨cv0,cv1,rfl⟩ : ∃ a b,cargs = #[a,b]:=by
  obtain⟨l⟩:=cargs
  match l,hsz with
  | [a,b],_=>exact⟨a,b,rfl⟩
 have h0:=(hget 0 _ cv0 rfl rfl).sl_inv
 obtain rfl:=(hget 1 _ cv1 rfl rfl).str_inv
 generalize hq:xs.map AD5=rows at h0
 cases h0 with
 | nil=>cases xs with
   | nil=>exact absurd rfl hne
   | cons a t=>cases hq
 | empty=>cases xs with
   | nil=>exact absurd rfl hne
   | cons a t=>cases hq
 | sl m k rs cb co c e fz cap cv h1 h2 h3 h4 h5 h6 h7 h8 =>
   subst hq
   have hlen:(Lib.join (xs.map (·.data.toList)) comma.data.toList).length≤140737488355328:=by
    cases xs with
    | nil=>exact absurd rfl hne
    | cons a t =>
      rw[jD,Lib.join_length]
      have hlens : ∀ l:List ByteArray,(∀ x∈l,x.size≤1099511627776)→Lib.lens (l.map (·.data.toList))≤l.length * 1099511627776:=by
       intro l
       induction l with
       | nil=>intro _; simp [Lib.lens]
       | cons y r ih =>
         intro hy
         have a1:=ih fun z hz=>hy z (List.mem_cons_of_mem _ hz)
         have a2:y.data.toList.length≤1099511627776:=hy y (by simp)
         simp only[Lib.lens,jD,List.sum_cons,zT] at a1 ⊢
         omega
      have a1:=hlens (a :: t) hl
      rw[jD] at a1
      have a3:comma.data.toList.length=1:=rfl
      rw[a3,jH]
      simp only[zT] at a1 hN ⊢
      omega
   have hcall:=Any.strings_Join A43 A42 cb co cap xs comma w (fun j x hx => ?_) ?_ (by omega) (by simpa using h7) hlen
   ·rw[jH]
    refine hcall.mono ?_
    rintro e' w' ⟨rfl,hb⟩
    exact⟨_,_,g,h,rfl,⟨rfl,rfl⟩,Gh.le.refl g,S.below hb,.fro (.str _)⟩
   ·obtain⟨hj,rfl⟩:=List.getElem?_eq_some_iff.1 hx
    have hc5:=h5 j 0 (by rw[jH]; exact hj) (by omega)
    have hc6:=h6 j 0 (AD5 xs[j]) (.str xs[j]) (by rw[List.getElem?_map,List.getElem?_eq_getElem hj]; rfl) rfl
    have hc7:cv j 0 = .string xs[j]:=(Rep.fro (g:=g) hc6).str_inv
    rw[Nat.mul_one,Nat.add_zero,hc7] at hc5
    have hm:=S.fro _ _ h3
    simp only[World.cell?,hm]
    exact hc5
   ·exact(Array.getElem?_eq_some_iff.1 (S.fro _ _ h3)).1
def nmQ (m:Mo)(q:Nat × Nat):ByteArray:=XA m (q.1:Int) (q.2:Int)
theorem AI0 {a b:ByteArray}(h:a.data.toList=b.data.toList):a=b:=ByteArray.ext (Array.ext' h)
theorem AUW (m:Mo) : ∀ (L:List (Nat × Nat)) (s:ByteArray),prN m s false (L.map fun q=>(q.1:Int)) (L.map fun q=>(q.2:Int))=s++⟨(Lib.joinTail [44] ((L.map (nmQ m)).map (·.data.toList))).toArray⟩:=by
 intro L
 induction L with
 | nil=>intro s; apply AI0; simp [prN,Lib.joinTail]
 | cons q r ih =>
   intro s
   show prN m ((if false=true then s else s++comma)++XA m q.1 q.2) false _ _=_
   rw[if_neg (by decide)]
   have:=ih (s++comma++XA m q.1 q.2)
   rw[this]
   apply AI0
   simp [Lib.joinTail,nmQ,comma]
theorem AUX (m:Mo)(L:List (Nat × Nat))(hL:L≠[])(s:ByteArray):prN m s true (L.map fun q=>(q.1:Int)) (L.map fun q=>(q.2:Int))=s++WV (L.map (nmQ m)):=by
 cases L with
 | nil=>exact absurd rfl hL
 | cons q r =>
   show prN m ((if true=true then s else s++comma)++XA m q.1 q.2) false _ _=_
   rw[if_pos rfl]
   have:=AUW m r (s++XA m q.1 q.2)
   rw[this]
   apply AI0
   unfold WV
   simp only[jD]
   rw[Lib.join_cons]
   simp [nmQ]
end Go.Proofs.YtfpagfhhhlljjaaGreatDoor.Ho
set_option linter.unusedSimpArgs false
set_option maxRecDepth 8000
namespace Go.Proofs.YtfpagfhhhlljjaaGreatDoor.Ho
open Sm Bins Cov Go.RowKit
open Bool renaming or_false→jQ,not_false→jC,false_eq_true→jW
open Int renaming toNat_natCast→wR
open List renaming mem_map→zI,getElem?_eq_getElem→jO,map_cons→jD,length_cons→zT,length_map→jH,length_nil→zX,getElem_mem→jS,contains_cons→jR,contains_nil→jJ,map_nil→jE,append_nil→jF,take_of_length_le→jU,drop_zero→zK
open Nat renaming le_trans→qL,reduceBEq→jK,reduceEqDiff→jB,reduceAdd→jP,add_zero→jM,zero_add→jG
open Option renaming getD_some→jA
theorem A45 : ∀ l:List ByteArray,LV (l.map AD5)=true:=fun l=>by
 unfold LV
 rw[List.all_eq_true]
 intro row hr
 obtain⟨c,_,rfl⟩:=zI.1 hr; rfl
theorem A5M (h:Hp)(s:ByteArray):EQ Tryz.prog false h 65 1 [(0,.str s)]=some (.sl .full 1 [[.str s]],h):=by kernel_rfl
theorem AU9 {m:Mo}{q:Nat × Nat}(h1:q.1 < m.pts.length)(h2:q.2 < m.pts[q.1].bins.length):nmQ m q=m.pts[q.1].bins[q.2].name:=by
 have hbe:IU m (q.1:Int)=m.pts[q.1].bins:=by unfold IU; rw[wR,jO h1]
 unfold nmQ XA
 rw[hbe,wR,jO h2]
theorem AOD (xs:List ByteArray)(hN:xs.length≤4)(hl : ∀ x∈xs,x.size≤1099511627776):(WV xs).size≤4398046511107:=by
 show(WV xs).data.toList.length≤_
 unfold WV
 simp only
 cases xs with
 | nil=>simp [Lib.join_nil]
 | cons a t =>
   rw[jD,Lib.join_length]
   have hlens : ∀ l:List ByteArray,(∀ x∈l,x.size≤1099511627776)→Lib.lens (l.map (·.data.toList))≤l.length * 1099511627776:=by
    intro l
    induction l with
    | nil=>intro _; simp [Lib.lens]
    | cons y r ih =>
      intro hy
      have a1:=ih fun z hz=>hy z (List.mem_cons_of_mem _ hz)
      have a2:y.data.toList.length≤1099511627776:=hy y (by simp)
      simp only[Lib.lens,jD,List.sum_cons,zT] at a1 ⊢
      omega
   have a1:=hlens (a :: t) hl
   rw[jD] at a1
   rw[jH]
   simp only[zT,zX] at a1 hN ⊢
   omega
theorem AUU {x:Hl}{L:List (Nat × Nat)}(hL:x.bins=L.map fun q=>(q.2:Int)){j:Nat}(hj:j < L.length) : ∃ hb:j < x.bins.length,x.bins[j]=((L[j].2:Nat):Int):=by
 have hb:j < x.bins.length:=by rw[hL,jH]; exact hj
 refine⟨hb,?_⟩
 have:x.bins[j]? = (L.map fun q=>((q.2:Nat):Int))[j]? := by rw[← hL]
 rw[jO hb,List.getElem?_map,jO hj] at this
 simpa using this
theorem ASI (a:ByteArray):WV [a]=a:=by
 apply AI0
 unfold WV
 simp [Lib.join_one]
theorem AYT {m:Mo}(hm:MoOk m){x:Hl}(hv:MX m x=true) : ∃ q0,(MV m x)[0]? = some q0∧∃ nm0:ByteArray,nm0.size≤1099511627776∧prH m x=nm0++dot++WV ((MV m x).map (nmQ m))∧(x.cross=false→∃ h1:q0.1 < m.pts.length,nm0=m.pts[q0.1].name) ∧
  (x.cross=true→∃ i,∃ hi:i < m.crs.length,x.idx=(i:Int)∧nm0=m.crs[i].name):=by
 have hL:=XO hv
 have hps:=hL.pts
 have hbn:=hL.bins
 have hl1:=hL.n1
 cases hc:x.cross
 ·obtain⟨i,hi,k,hk,hz,hb,hkd,hg⟩:=S9 hv hc
  have hp:SN m x = [(i:Int)]:=by unfold SN; rw[if_neg (by rw[hc]; decide),hz]
  rw[hp] at hps
  have hpr:prH m x=m.pts[i].name++dot++XA m (i:Int) (k:Int):=by
   unfold prH
   rw[if_pos hv,if_neg (by rw[hc]; decide),hz,ABZ hi]
   show m.pts[i].name++dot++XA m x.idx (x.bins.headD 0)=_
   rw[hz,hb]; rfl
  rw[hb] at hbn
  generalize MV m x=L at hps hbn
  match L,hps,hbn with
  | [q],hps,hbn =>
    simp at hps hbn
    obtain⟨a,b⟩:=q
    simp at hps hbn
    obtain rfl:a=i:=by omega
    obtain rfl:b=k:=by omega
    exact⟨_,rfl,m.pts[a].name,qL (hm.pts _ (jS hi)).name (by omega),by rw[hpr]; exact congrArg _ (ASI _).symm,fun _=>⟨hi,rfl⟩,fun q=>by cases q⟩
 ·obtain⟨i,hi,hz,hin,hh,hg⟩:=TA hv hc
  have hp:SN m x=m.crs[i].pts:=by unfold SN; rw[if_pos hc,hz,QI hi]
  rw[hp] at hps
  have hpr:prH m x=prN m (m.crs[i].name++dot) true m.crs[i].pts x.bins:=by
   unfold prH
   rw[if_pos hv,if_pos hc,hz,QI hi]; rfl
  rw[hps,hbn] at hpr
  have hne:MV m x≠[]:=by intro q; rw[q] at hl1; simp at hl1
  rw[AUX m _ hne] at hpr
  exact⟨_,jO (show 0 < (MV m x).length by omega),m.crs[i].name,qL (hm.crs _ (jS hi)).name (by omega),hpr,fun q=>(by cases q),fun _=>⟨i,hi,hz,rfl⟩⟩
section
variable (G:Nat→AV)
set_option maxHeartbeats 4000000 in
theorem ANX (hG:GOk G)(m:Mo)(hm:MoOk m)(x:Hl)(hn:x.bins.length≤1048576)(h:Hp):PCall (En G) 13 [.agg (EE m),.agg (IP x)] h (.str (prH m x)):=by
 refine ACalls.pure (R:=fun v H=>v = .str (prH m x)∧Sm.ext h H) 3 ?_ (fun v H ⟨a,b⟩=>⟨b,by rw[a]; rfl⟩)
 refine KW (H:=hint [38] [(62,[61])]) (enM G) Tryz.func13 rfl (by kernel_rfl) (by kernel_rfl) (Nat.le_of_ble_eq_true (by kernel_rfl)) ?_
 show awp _ _ _ _ _ (EJ _ [.tmp 4] _)
 have t:=Hb.mk' h m x
 simp -implicitDefEqProofs only[vQ,jR,jJ,jK,jQ,BD,↓reduceIte,jB,enP,jW,bxM,bxH]
 generalize h++[ABlk.live 2 [EE m]]++[ABlk.live 3 [IP x]]=H at t ⊢
 generalize (h++[ABlk.live 2 [EE m]]).length=hb at t ⊢
 simp -implicitDefEqProofs only[vQ,jR,jJ,jK,jQ,BD,↓reduceIte,jB,enP,jW,ldM t.gm,ldH t.gh]
 refine(valid_prog G hG m hm x hn H).use ?_
 cases hv:MX m x
 ·simp -implicitDefEqProofs only[vQ,jR,jJ,jK,jQ,BD,↓reduceIte,jW]
  exact⟨by unfold prH; rw[hv]; rfl,t.hx⟩
 have h0:=V6 hv
 have hL:=XO hv
 have hhp : ∀ H,∃ s,PCall (En G) 32 [.agg (EE m),.agg (IP x)] H (.sl s 1 ((SN m x).map Bins.qencI)):=fun H=>AGK G m x hv H
 have hps:=hL.pts
 rw[hps] at hhp
 obtain⟨s,hp⟩:=hhp H
 simp -implicitDefEqProofs only[vQ,jR,jJ,jK,jQ,BD,↓reduceIte,jB,Bool.not_true,enP,jW,ldM t.gm,ldH t.gh]
 refine hp.use ?_
 have hln:=hL.n4
 have hl1:=hL.n1
 have hnames : ∀ q∈MV m x,∃ h1:q.1 < m.pts.length,∃ h2:q.2 < m.pts[q.1].bins.length,nmQ m q=m.pts[q.1].bins[q.2].name∧(nmQ m q).size≤1099511627776:=fun q hq=>by
  obtain⟨h1,h2⟩:=hL.ok _ hq
  have hpo:=hm.pts _ (jS h1)
  exact⟨h1,h2,AU9 h1 h2,by rw[AU9 h1 h2]; exact(hpo.bins _ (jS h2)).name⟩
 have hbn:=hL.bins
 -- what it is to say
 have hsay:=AYT hm hv
 generalize MV m x=L at hL hln hl1 hnames hbn hsay hps hhp
 simp -implicitDefEqProofs only[vQ,jR,jJ,jK,jQ,BD,↓reduceIte,enP,JV,jW,jH]
 refine G6 0 (fun F H' => ∃ v,F 2 = .ptr h.length 0 0∧F 3 = .ptr hb 0 0∧F 5=v∧Sm.ext H H'∧outG 1 AD5 H (L.map (nmQ m)) v H') (fun _ _=>False) ?_ ?_ (fun _ _ q=>q.elim)
 ·refine DK (fun n F H' => ∃ j v,n+j=L.length∧F 2 = .ptr h.length 0 0∧F 3 = .ptr hb 0 0∧F 5=v∧F 15 = .sl s 1 ((L.map fun q=>((q.1:Nat):Int)).map Bins.qencI)∧F 16 = .int .i64 (L.length:Nat)∧F 17 = .int .i64 (j:Nat)∧Sm.ext H H'∧outG 1 AD5 H ((L.take j).map (nmQ m)) v H') L.length
   ⟨0,.sl .nil 0 [],by simp,by simp -implicitDefEqProofs only[AA,↓reduceIte,jB],by simp -implicitDefEqProofs only[AA,↓reduceIte,jB],by simp -implicitDefEqProofs only[AA,↓reduceIte,jB],by simp -implicitDefEqProofs only[AA,↓reduceIte,jB],by simp -implicitDefEqProofs only[AA,↓reduceIte,jB],by simp -implicitDefEqProofs only[AA,↓reduceIte] <;> rfl,ext.rfl' _,by rw[List.take_zero]; exact outG.nil _ _ _ _⟩ ?_
  rintro n F H' ⟨j,v,hj,f2,f3,f5,f15,f16,f17,hx,ho⟩
  simp -implicitDefEqProofs only[vQ,jR,jJ,jK,jQ,BD,↓reduceIte,enP,jW,f16,f17]
  refine CU (fun hc => ?_) (fun hc => ?_)
  ·have hj':j < L.length:=by simpa using hc
   have gm:=FK hx t.gm
   have gh:=FK hx t.gh
   obtain⟨hb2,hbj⟩:=AUU hbn hj'
   have hj2:j < (L.map fun q=>((q.1:Nat):Int)).length:=by rw[jH]; exact hj'
   have hg:(L.map fun q=>((q.1:Nat):Int))[j]=((L[j].1:Nat):Int):=by simp
   obtain⟨q1,q2,hnm,hns⟩:=hnames _ (jS hj')
   have hlen:((L.take j).map (nmQ m)).length < 8388608:=by rw[jH,List.length_take]; omega
   obtain⟨v',H2,ha,ho2,_,he2,_,_⟩:=ho.append (P:=Tryz.prog) AX9 sz9 AX0 A0O (by omega) hlen hx (nmQ m L[j])
   have ha':FZ Tryz.prog true H' 65 65 v (.sl .full 1 [[.str (nmQ m L[j])]])=some (v',H2):=ha
   rw[hnm] at ha'
   have hst:(L.take (j+1)).map (nmQ m)=(L.take j).map (nmQ m)++[nmQ m L[j]]:=by
    rw[List.take_succ_eq_append_getElem hj',List.map_append]; rfl
   simp -implicitDefEqProofs only[vQ,jR,jJ,jK,jQ,BD,↓reduceIte,jB,enP,JJ,jW,f15,f17,DL hj2,C9 ag3 hj2,Cov.encI0,hg]
   refine ET (by kernel_rfl) ?_
   simp -implicitDefEqProofs only[vQ,jR,jJ,jK,jQ,IC,BD,↓reduceIte,jB,jP,enP,QG,H7,JJ,LH,TG,I4,AD0,jW,f2,f3,f5,f17,QF gm,DL q1,C9 U2 q1,O6,ZZ gh,DL hb2,C9 ag3 hb2,Cov.encI0,hbj,DL q2,C9 ag9 q2,AL5,A5M,ha',wrap_succ (show j < 9223372036854775807 by omega)]
   refine⟨n - 1,by omega,j+1,v',by omega,by first | exact True.intro | exact f2,by first | exact True.intro | exact f3,by first | exact True.intro | exact rfl,by first | exact True.intro | exact f15,by first | exact True.intro | exact f16,by first | exact True.intro | exact rfl,he2,by rw[hst]; exact ho2⟩
  ·have hj' : ¬ j < L.length:=by simpa using hc
   rw[jU (by omega)] at ho
   simp -implicitDefEqProofs only[vQ,↓reduceIte,jB]
   exact⟨v,by first | exact True.intro | exact f2,by first | exact True.intro | exact f3,by first | exact True.intro | exact f5,hx,ho⟩
 rintro F H' ⟨v,f2,f3,f5,hx,ho⟩
 obtain⟨q0,hq0,nm0,hns0,hsay,hs1,hs2⟩:=hsay
 obtain⟨h0L,hq0'⟩:=List.getElem?_eq_some_iff.1 hq0
 have hj2:0 < (L.map fun q=>((q.1:Nat):Int)).length:=by rw[jH]; exact h0L
 have hg0:(L.map fun q=>((q.1:Nat):Int))[0]=((q0.1:Nat):Int):=by simp [hq0']
 have hne:L.map (nmQ m)≠[]:=by intro q; have:=congrArg List.length q; rw[jH,zX] at this; omega
 have hsz : ∀ y∈L.map (nmQ m),y.size≤1099511627776:=fun y hy=>by
  obtain⟨q,hq,rfl⟩:=zI.1 hy
  obtain⟨_,_,_,h4⟩:=hnames q hq
  exact h4
 have hln4:(L.map (nmQ m)).length≤4:=by rw[jH]; exact hln
 have hjs:=AOD _ hln4 hsz
 obtain⟨q1,_,_,_⟩:=hnames q0 (by rw[← hq0']; exact jS h0L)
 have gm:=FK hx t.gm
 have gh:=FK hx t.gh
 have l0:=AK9 gh
 have a1:=APY (a:=nm0) (b:=dot) (by rw[AL8]; omega)
 have a2:=APY (a:=nm0++dot) (b:=WV (L.map (nmQ m))) (by rw[ByteArray.size_append,AL8]; omega)
 obtain⟨s',hp2⟩:=hhp H'
 have hix0:JZ 1 H' (.sl s' 1 ((L.map fun q=>((q.1:Nat):Int)).map Bins.qencI)) (.int .i64 0)=some (.fptr 1 ((L.map fun q=>((q.1:Nat):Int)).map Bins.qencI) 0 0):=DL hj2
 have hld0:D5 Tryz.prog H' 3 (.fptr 1 ((L.map fun q=>((q.1:Nat):Int)).map Bins.qencI) 0 0)=some (.int .i64 (q0.1:Nat)):=(C9 ag3 hj2).trans (by rw[hg0]; rfl)
 generalize hN:L.map (nmQ m)=NS at ho hne hsz hln4 hjs a2 hsay
 obtain⟨o,rfl,ho1,hob⟩ : ∃ o,v = .own o 0 NS.length∧H.length≤o∧H'[o]? = some (.live 1 (NS.map AD5)):=by
  rcases ho with⟨e1,_⟩ | ⟨_,o,h1,h2,h3⟩
  ·exact absurd e1 hne
  ·exact⟨o,h2,h1,h3⟩
 have hz:=ADM (i:=61) (off:=0) (len:=NS.length) hob (by simp) (by rw[zK,jU (by simp)]; exact A45 NS)
 rw[zK,jU (by simp)] at hz
 have hx2:=t.hx.trans (hx.set ho1 .dead)
 have hjp:=fun H=>ASH G NS .any hne hln4 hsz H
 simp -implicitDefEqProofs only[vQ,↓reduceIte]
 refine ET (by kernel_rfl) ?_
 simp -implicitDefEqProofs only[vQ,jR,jJ,jK,jQ,↓reduceIte,jB,jP,enP,H7,JJ,f2,f3,ldM gm,QF gm,ldH gh]
 refine⟨_,hp2,?_⟩
 simp -implicitDefEqProofs only[vQ,jR,jJ,jK,jQ,BD,↓reduceIte,jB,jP,enP,QG,AD1,jW,hix0,hld0,DL q1,C9 ag9 q1,AL1,l0]
 cases hcr:x.cross
 ·obtain⟨_,e⟩:=hs1 hcr
  rw[e] at a1 a2
  simp -implicitDefEqProofs only[vQ,jR,jJ,jK,jQ,BD,↓reduceIte,jB,enP,UK,jW,f3,l0,hcr,f5,a1,VU,hz]
  refine(hjp _).use ?_
  simp -implicitDefEqProofs only[vQ,jR,jJ,jK,jQ,BD,↓reduceIte,jB,enP,jW,a1,a2]
  exact⟨by rw[hsay,e],hx2⟩
 ·obtain⟨i,hi,hz2,e⟩:=hs2 hcr
  have l1:=ABO gh
  rw[hz2] at l1
  rw[e] at a1 a2
  simp -implicitDefEqProofs only[vQ,jR,jJ,jK,jQ,BD,↓reduceIte,jB,enP,QU,JS,UK,LJ,ADZ,jW,f2,f3,l0,hcr,l1,VM gm,DL hi,C9 ag9 hi,AL4,f5,a1,VU,hz]
  refine(hjp _).use ?_
  simp -implicitDefEqProofs only[vQ,jR,jJ,jK,jQ,BD,↓reduceIte,jB,enP,jW,a1,a2]
  exact⟨by rw[hsay,e],hx2⟩
end
end Go.Proofs.YtfpagfhhhlljjaaGreatDoor.Ho
set_option linter.unusedSimpArgs false
set_option maxRecDepth 8000
namespace Go.Proofs.YtfpagfhhhlljjaaGreatDoor.Ho
open Sm Bins Cov Xe Go.RowKit
open Bool renaming not_false→jC,not_true→jV
open List renaming map_nil→jE,append_nil→jF,mem_cons→qN,map_cons→jD,getElem?_cons_zero→zM,getElem?_cons_succ→zO,length_nil→zX,map_map→qI,length_map→jH
open Nat renaming le_refl→jL,le_of_ble_eq_true→jI,reduceEqDiff→jB,reduceAdd→jP,zero_add→jG
open Option renaming getD_some→jA,getD_none→jT
abbrev RS:ByteArray:=⟨#[107,105,110,100]⟩
def kE:Ex := .mk 2 0 RS .nil []
def A64:Bin:=mkB ⟨#[108,111,119]⟩ 0 0 3
def A65:Bin:=mkB ⟨#[98,97,100]⟩ 2 2 2
def kP:Pt:=⟨⟨#[112]⟩,kE,.full,[A64,A65]⟩
def kM:Mo:=⟨.full,[kP],.nil,[]⟩
def kH:Hl:=⟨false,0,.full,[0]⟩
def wE:List AV := [.int .i64 2,.int .i64 0,.str RS,.sl .nil 0 []]
def wL:List AV:=rowB ⟨#[108,111,119]⟩ 0 0 3
def wB:List AV:=rowB ⟨#[98,97,100]⟩ 2 2 2
def wP:List AV := .str ⟨#[112]⟩ :: (wE++[.sl .full 4 [wL,wB]])
def wM:List AV := [.sl .full 6 [wP],.sl .nil 0 []]
theorem wcB (s:ByteArray)(k lo hi:Int):CvRow (rowB s k lo hi) (GR (mkB s k lo hi)):=CvRow.cons rfl (Cv.refl _) (CvRow.cons rfl (Cv.refl _) (CvRow.cons rfl (Cv.refl _) (CvRow.cons rfl (Cv.nil 0 1) CvRow.nil)))
theorem wcP (s:ByteArray){xs ys:List (List AV)}(h:Cv (.sl .full 4 xs) (.sl .full 4 ys)):CvRow (.str s :: (wE++[.sl .full 4 xs])) (.str s :: (CX kE++[.sl .full 4 ys])) :=
 CvRow.cons rfl (Cv.refl _) (CvRow.cons rfl (Cv.refl _) (CvRow.cons rfl (Cv.refl _) (CvRow.cons rfl (Cv.refl _) (CvRow.cons rfl (Cv.nil 0 4) (CvRow.cons rfl h CvRow.nil)))))
theorem wc2 {m:SM}{k:Nat}{a b a' b':List AV}(h1:CvRow a a')(h2:CvRow b b'):Cv (.sl m k [a,b]) (.sl m k [a',b']):=Cv.rows rfl fun i r r' e1 e2=>by
 match i,e1,e2 with
 | 0,e1,e2=>cases e1; cases e2; exact h1
 | 1,e1,e2=>cases e1; cases e2; exact h2
 | _+2,e1,_=>cases e1
theorem wc1 {m:SM}{k:Nat}{a a':List AV}(h1:CvRow a a'):Cv (.sl m k [a]) (.sl m k [a']):=Cv.rows rfl fun i r r' e1 e2=>by
 match i,e1,e2 with
 | 0,e1,e2=>cases e1; cases e2; exact h1
 | _+1,e1,_=>cases e1
theorem A3Y:CvR (.agg wM) (.agg (EE kM)) :=
 CvR.agg (CvRL.cons (CvR.sl (wc1 (wcP _ (wc2 (wcB _ _ _ _) (wcB _ _ _ _))))) (CvRL.cons (CvR.sl (Cv.nil 0 3)) CvRL.nil))
theorem A55 (h:Hp):KG Tryz.prog h 48=some (.ptr h.length 0 0,h++[.live 4 [[.int .i64 0,.int .i64 0,.str ⟨#[]⟩,.sl .nil 0 []]]]):=J4 (row := [.int .i64 0,.int .i64 0,.str ⟨#[]⟩,.sl .nil 0 []]) (by kernel_rfl)
theorem A37 (h:Hp)(row:List AV)(hr:row.length=4):FP Tryz.prog (h++[.live 4 [row]]) 48 (.ptr h.length 0 0) (.agg [.int .i64 2,.int .i64 0,.str RS,.sl .nil 0 []])=some (h++[.live 4 [wE]]):=by
 have h1:=NZ (P:=Tryz.prog) (t:=48) (h:=h) (k:=4) (j:=0) (row:=row) (cs:=wE) (v := .agg wE) rfl LD (by rw[hr]; exact jL 4)
 have h2:splice row 0 wE=wE:=by unfold splice; simp [hr,wE]
 rw[h2] at h1
 exact h1
theorem A5V (s:ByteArray)(xs:List (List AV)):KZ Tryz.prog 56 [(0,.str s),(2,.sl .full 2 xs)]=some (.agg [.str s,.int .i64 0,.sl .full 2 xs,.sl .nil 0 []]):=by kernel_rfl
theorem A5O (h:Hp):EQ Tryz.prog false h 49 2 [(0,.agg wL),(1,.agg wB)]=some (.sl .full 4 [wL,wB],h):=by kernel_rfl
theorem A5W (s:ByteArray)(xs:List (List AV)):KZ Tryz.prog 51 [(0,.str s),(1,.agg wE),(2,.sl .full 4 xs)]=some (.agg (.str s :: (wE++[.sl .full 4 xs]))):=by kernel_rfl
theorem A5S (h:Hp):EQ Tryz.prog false h 22 1 [(0,.agg wP)]=some (.sl .full 6 [wP],h):=by kernel_rfl
theorem A5Y:KZ Tryz.prog 25 [(0,.sl .full 6 [wP])]=some (.agg wM):=by kernel_rfl
theorem A1J {H:Hp}{b:Nat}{row:List AV}(hb:H[b]? = some (.live 4 [row]))(hr:row.length=4):D5 Tryz.prog H 56 (.ptr b 0 0)=some (.agg row):=by
 rw[GV ABV XF hb rfl (by rw[hr]; exact jL 4),List.drop_zero,List.take_of_length_le (by omega)]
structure Bk (h H:Hp) (b1 b2:Nat):Prop where
 g0:H[h.length]? = some (.live 2 [[.sl .nil 0 [],.sl .nil 0 []]])
 g1:H[b1]? = some (.live 4 [wL])
 g2:H[b2]? = some (.live 4 [wB])
 hx:Sm.ext h H
theorem Bk.mk' (h:Hp):Bk h (h++[ABlk.live 2 [[.sl .nil 0 [],.sl .nil 0 []]]]++[ABlk.live 4 [wL]]++[ABlk.live 4 [wB]]) (h++[ABlk.live 2 [[.sl .nil 0 [],.sl .nil 0 []]]]).length (h++[ABlk.live 2 [[.sl .nil 0 [],.sl .nil 0 []]]]++[ABlk.live 4 [wL]]).length :=
 ⟨CP (CP (CZ _ _)),CP (CZ _ _),CZ _ _,(((ext.rfl' h).app _).app _).app _⟩
section
variable (G:Nat→AV)
theorem A2Y (h:Hp):PCall (En G) 49 [] h (.agg wE):=by
 refine ACalls.pure 3 (R:=fun v H=>v = .agg wE∧Sm.ext h H) ?_ (fun v h' ⟨e,x⟩=>⟨x,by subst e; rfl⟩)
 refine acN Tryz.func49 rfl ?_
 show awp _ _ _ _ _ (EJ _ [.cell 0 48] _)
 simp -implicitDefEqProofs only[vQ,BD,↓reduceIte,jB,enP,jT,A55,A7O,A37 _ [.int .i64 0,.int .i64 0,.str ⟨#[]⟩,.sl .nil 0 []] rfl]
 refine⟨trivial,.agg wE,?_,rfl,?_⟩
 ·exact TE (P:=Tryz.prog) (h:=h) (k:=4) (row:=wE) TQ LD (jL 4)
 ·exact(ext.rfl' h).app _
set_option maxHeartbeats 2000000 in
theorem AB3 (h:Hp):PCall (En G) 26 [] h (.agg (EE kM)):=by
 refine PCall.res (r := .agg wM) ?_ A3Y
 refine ACalls.pure 3 (R:=fun v H=>v = .agg wM∧Sm.ext h H) ?_ (fun v h' ⟨e,x⟩=>⟨x,by subst e; rfl⟩)
 refine acN Tryz.func26 rfl ?_
 show awp _ _ _ _ _ (EJ _ [.cell 0 25] _)
 have E:=Bk.mk' h
 have r1:rowB ⟨#[108,111,119]⟩ 0 0 3=wL:=rfl
 have r2:rowB ⟨#[98,97,100]⟩ 2 2 2=wB:=rfl
 simp -implicitDefEqProofs only[vQ,BD,↓reduceIte,jB,enP,jT,A7S,A52,A5L,A7N,A5V,ATR,A36 _ _ _ _ _ [.str ⟨#[]⟩,.int .i64 0,.sl .nil 0 [],.sl .nil 0 []] rfl,r1,r2]
 generalize h++[ABlk.live 2 [[.sl .nil 0 [],.sl .nil 0 []]]]++[ABlk.live 4 [wL]]++[ABlk.live 4 [wB]]=H at E ⊢
 generalize (h++[ABlk.live 2 [[.sl .nil 0 [],.sl .nil 0 []]]]++[ABlk.live 4 [wL]]).length=b2 at E ⊢
 generalize (h++[ABlk.live 2 [[.sl .nil 0 [],.sl .nil 0 []]]]).length=b1 at E ⊢
 have hst:FP Tryz.prog H 25 (.ptr h.length 0 0) (.agg wM)=some (H.set h.length (.live 2 [wM])):=by
  rw[NH (v := .agg wM) (cs:=wM) (row := [.sl .nil 0 [],.sl .nil 0 []]) rfl A2H E.g0 (jL 2)]; rfl
 have p1:AV.str ⟨#[112]⟩ :: (wE++[.sl .full 4 [wL,wB]])=wP:=rfl
 refine ET (by kernel_rfl) ?_
 simp -implicitDefEqProofs only[vQ,↓reduceIte,jB,jP,enP]
 refine⟨_,A2Y G H,?_⟩
 simp -implicitDefEqProofs only[vQ,MC,YA,IC,LC,↓reduceIte,jB,jP,enP,jT,A1J E.g1 rfl,A1J E.g2 rfl,A5O,A5W,p1,A5S,A5Y,hst]
 rw[X3 (b:=h.length) (by simp -implicitDefEqProofs only[AA,↓reduceIte,jB]) (x := .agg wM) (by rw[GV A6D A2H (EM E.g0) rfl (jL 2)]; rfl)]
 exact⟨rfl,E.hx.set (jL _) _⟩
end
theorem k_e:cnE I7 kM kH=0:=by decide +kernel
theorem A62:prH kM kH=⟨#[112,46,108,111,119]⟩:=by decide +kernel
theorem A41:(cnL I7 kM kH).map (·.map Ex.op) = [[23,4]]:=by decide +kernel
theorem A4Z:htV kM kH (XM kM [[(RS,3)]]) (UY kM [[(RS,3)]])=(true,0):=by decide +kernel
theorem A63:htV kM kH (XM kM [[(RS,2)]]) (UY kM [[(RS,2)]])=(false,0):=by decide +kernel
theorem AVM:MoOk kM:=⟨by decide,by decide,fun p hp=>by
 simp only[kM,qN,List.not_mem_nil,or_false] at hp
 subst hp
 exact⟨by decide +kernel,by decide,by decide,fun b hb=>by
  simp only[kP,qN,List.not_mem_nil,or_false] at hb
  rcases hb with rfl | rfl <;> exact⟨by decide,by decide,by decide,by decide⟩⟩,fun c hc=>by cases hc⟩
theorem A40 : ∃ a b:Ex,cnL I7 kM kH = [[a,b]]∧a.op=23∧b.op=4:=by
 have h:=A41
 generalize cnL I7 kM kH=c at h
 rcases c with _ | ⟨r,_ | ⟨r2,t⟩⟩
 ·cases h
 ·rcases r with _ | ⟨a,_ | ⟨b,_ | ⟨c,t⟩⟩⟩
  ·cases h
  ·simp at h
  ·simp at h
   exact⟨a,b,rfl,h.1,h.2⟩
  ·simp at h
 ·simp at h
theorem A56 (h:Hp):KG Tryz.prog h 28=some (.ptr h.length 0 0,h++[.live 3 [[.bool false,.int .i64 0,.sl .nil 0 []]]]):=J4 (row := [.bool false,.int .i64 0,.sl .nil 0 []]) (by kernel_rfl)
theorem A38 (h:Hp)(row:List AV)(hr:row.length=3):FP Tryz.prog (h++[.live 3 [row]]) 28 (.ptr h.length 0 0) (.agg [.bool false,.int .i64 0,.sl .full 1 [[.int .i64 0]]])=some (h++[.live 3 [IP kH]]):=by
 have h1:=NZ (P:=Tryz.prog) (t:=28) (h:=h) (k:=3) (j:=0) (row:=row) (cs:=IP kH) (v := .agg (IP kH)) rfl A2G (by rw[hr]; exact jL 3)
 have h2:splice row 0 (IP kH)=IP kH:=by unfold splice; simp [hr,IP]
 rw[h2] at h1
 exact h1
theorem A5R (h:Hp)(a:Int):EQ Tryz.prog false h 26 1 [(0,.int .i64 a)]=some (.sl .full 1 [[.int .i64 a]],h):=by kernel_rfl
theorem A1X (s:ByteArray)(a:Int):KZ Tryz.prog 59 [(0,.str s),(1,.int .i64 a)]=some (.agg [.str s,.int .i64 a]):=by kernel_rfl
theorem A1S (h:Hp)(s:ByteArray)(a:Int):EQ Tryz.prog false h 60 1 [(0,.agg [.str s,.int .i64 a])]=some (.sl .full 2 [[.str s,.int .i64 a]],h):=by kernel_rfl
theorem A1V (h:Hp)(xs:List (List AV)):EQ Tryz.prog false h 38 1 [(0,.sl .full 2 xs)]=some (.sl .full 1 [[.sl .full 2 xs]],h):=by kernel_rfl
def kSs (n:Int):Ss:=⟨.full,[(RS,n)]⟩
section
variable (G:Nat→AV)
theorem A4Y (hG:GOk G)(hT:UQ G)(n:Int)(hn:A6K (RS,n))(h:Hp):PCall (En G) 19 [.agg (EE kM),.agg (IP kH),.sl .full 1 [[.sl .full 2 [[.str RS,.int .i64 n]]]]] h (.tup [.bool (htV kM kH (XM kM [[(RS,n)]]) (UY kM [[(RS,n)]])).1,.int .i64 (htV kM kH (XM kM [[(RS,n)]]) (UY kM [[(RS,n)]])).2]) :=
 hit_prog G hG hT kM AVM kH (by decide) [kSs n] .full h (by simp) (fun x hx=>by
  rw[List.mem_singleton.1 hx]
  exact⟨by simp [kSs],fun s hs=>by rw[List.mem_singleton.1 hs]; exact hn⟩)
set_option maxHeartbeats 2000000 in
theorem AB7 (hG:GOk G)(hT:UQ G)(h:Hp):PCall (En G) 10 [] h (.bool true):=by
 refine ACalls.pure0 rfl ?_
 refine acN Tryz.func10 rfl ?_
 show awp _ _ _ _ _ (EJ _ [.tmp 0] _)
 simp -implicitDefEqProofs only[vQ,BD,↓reduceIte,jB,enP,jT,A5R,A5U,A56,A38 _ [.bool false,.int .i64 0,.sl .nil 0 []] rfl]
 have g:=CZ h (ABlk.live 3 [IP kH])
 have hx:=(ext.rfl' h).app [ABlk.live 3 [IP kH]]
 generalize h++[ABlk.live 3 [IP kH]]=H at g hx ⊢
 have hv:MX kM kH=true:=by decide +kernel
 have hC:=V5 G hG kM AVM kH (by decide) H
 obtain⟨a,b,hab,ha,hb⟩:=A40
 have hcv:cnV I7 kM kH = .tup [.sl .any 1 [SS [a,b]],.int .i64 0]:=by
  unfold cnV
  rw[k_e,hab]; rfl
 rw[hcv] at hC
 have h3:=A4Y G hG hT 3 (by constructor <;> decide) H
 rw[A4Z] at h3
 have h2:=A4Y G hG hT 2 (by constructor <;> decide) H
 rw[A63] at h2
 have hP:=ANX G hG kM AVM kH (by decide) H
 rw[A62] at hP
 refine ET (by kernel_rfl) ?_
 simp -implicitDefEqProofs only[vQ,↓reduceIte,jB,jP,enP]
 refine⟨_,AB3 G H,?_⟩
 simp -implicitDefEqProofs only[vQ,MH,↓reduceIte,jB,jP,ldH g]
 refine⟨_,hC,?_⟩
 simp -implicitDefEqProofs only[vQ,zM,zO,MH,↓reduceIte,jB,jP]
 refine ET (by kernel_rfl) ?_
 simp -implicitDefEqProofs only[vQ,↓reduceIte,jB,jP,enP]
 refine⟨_,AB3 G H,?_⟩
 simp -implicitDefEqProofs only[vQ,YA,IC,MH,↓reduceIte,jB,jP,enP,ldH g,A1X,A1S,A1V]
 refine⟨_,h3,?_⟩
 simp -implicitDefEqProofs only[vQ,zM,zO,MH,↓reduceIte,jB,jP]
 refine ET (by kernel_rfl) ?_
 simp -implicitDefEqProofs only[vQ,↓reduceIte,jB,jP,enP]
 refine⟨_,AB3 G H,?_⟩
 simp -implicitDefEqProofs only[vQ,YA,IC,MH,↓reduceIte,jB,jP,enP,ldH g,A1X,A1S,A1V]
 refine⟨_,h2,?_⟩
 simp -implicitDefEqProofs only[vQ,zM,zO,MH,↓reduceIte,jB,jP]
 refine ET (by kernel_rfl) ?_
 have i0:JZ 1 H (.sl .any 1 [SS [a,b]]) (.int .i64 0)=some (.fptr 1 [SS [a,b]] 0 0):=rfl
 have d0:D5 Tryz.prog H 46 (.fptr 1 [SS [a,b]] 0 0)=some (.sl .any 4 [CX a,CX b]):=YU (row:=SS [a,b]) PX rfl rfl
 have j0:JZ 4 H (.sl .any 4 [CX a,CX b]) (.int .i64 0)=some (.fptr 4 [CX a,CX b] 0 0):=rfl
 have j1:JZ 4 H (.sl .any 4 [CX a,CX b]) (.int .i64 1)=some (.fptr 4 [CX a,CX b] 1 0):=rfl
 have m0:D5 Tryz.prog H 3 (.fptr 4 [CX a,CX b] 0 0)=some (.int .i64 23):=YU (row:=CX a) ag3 rfl (by rw[G9,ha]; rfl)
 have m1:D5 Tryz.prog H 3 (.fptr 4 [CX a,CX b] 1 0)=some (.int .i64 4):=YU (row:=CX b) ag3 rfl (by rw[G9,hb]; rfl)
 have c2:(((2:Nat):Int) == 2)=true:=rfl
 have c1:(((1:Nat):Int) == 1)=true:=rfl
 simp -implicitDefEqProofs only[vQ,QA,AJG,CO,↓reduceIte,jB,jP,Nat.add_zero,enP,ABR,XV,WH,SK,JE,beq_self_eq_true,List.length_cons,zX,c1,c2,i0,d0,j0,j1,m0,m1]
 refine⟨_,AB3 G H,?_⟩
 simp -implicitDefEqProofs only[vQ,QA,CO,↓reduceIte,jB,jP,enP,ldH g]
 refine⟨_,hP,?_⟩
 simp -implicitDefEqProofs only[vQ,LQ,↓reduceIte,jB,jP]
 exact⟨by rw[beq_self_eq_true],hx⟩
end
section
variable (G:Nat→AV)
def xsOf (l:List Ex):Xs:=⟨Cov.nm l,l⟩
theorem AJH (c:List (List Ex)):c.map SS=(c.map xsOf).map UU:=by rw[qI]; rfl
theorem AYJ {m:Mo}(hm:MoOk m){x:Hl}(hv:MX m x=true)(h:Hp):PCall (En G) 17 [.sl .any 1 ((cnL I7 m x).map SS),.sl .any 1 ((cnL JM m x).map SS)] h (.bool true):=by
 rw[AJH,AJH]
 obtain⟨a1,_,a3⟩:=AWQ (ins:=I7) hm hv fun hw hl=>AJB hw hl
 refine ANO G _ _ _ _ h (by rw[jH]; omega) (fun y hy => ?_) ?_
 ·obtain⟨r,hr,rfl⟩:=List.mem_map.1 hy
  obtain⟨b1,b2⟩:=a3 r hr
  exact⟨by show r.length≤_; omega,fun e he=>(b2 e he).1⟩
 ·rw[qI,qI]
  exact AMI hv
theorem AUN (h:Hp):PCall (En G) 17 [.sl .nil 0 [],.sl .nil 0 []] h (.bool true):=by
 refine acN Tryz.func17 rfl ?_
 show awp _ _ _ _ _ (EJ _ [.tmp 4] _)
 simp -implicitDefEqProofs only[vQ,BD,↓reduceIte,jB,jV,enP,XV,zX,bne,beq_self_eq_true]
 refine DK (fun n F H=>F 0 = .sl .nil 0 []∧F 5 = .int .i64 0∧H=h) 0 ⟨by simp -implicitDefEqProofs only[vQ,↓reduceIte,jB],by simp -implicitDefEqProofs only[AA,↓reduceIte] <;> rfl,rfl⟩ ?_
 rintro n F H ⟨f0,f5,rfl⟩
 simp -implicitDefEqProofs only[vQ,BD,↓reduceIte,jB,enP,XV,f0,f5,zX]
 have hd:decide ((0:Int) < ((0:Nat):Int))=false:=rfl
 simp -implicitDefEqProofs only[vQ,BD,↓reduceIte,hd]
 exact⟨by first | exact True.intro | exact rfl,by first | exact True.intro | exact rfl⟩
theorem A0G {ins:Ex→List Rng→Ex}{m:Mo}{x:Hl}(h:cnE ins m x=0):MX m x=true:=by
 unfold cnE at h
 split at h
 ·assumption
 ·cases h
set_option maxHeartbeats 1000000 in
theorem AVH (hG:GOk G)(hT:UQ G)(m:Mo)(hm:MoOk m)(x:Hl)(hn:x.bins.length≤1048576)(h:Hp):PCall (En G) 4 [.agg (EE m),.agg (IP x)] h (.bool true):=by
 refine ACalls.pure0 rfl ?_
 refine acN Tryz.func4 rfl ?_
 show awp _ _ _ _ _ (EJ _ [.tmp 4] _)
 have t:=Hb.mk' h m x
 simp -implicitDefEqProofs only[vQ,BD,↓reduceIte,jB,enP,bxM,bxH]
 generalize h++[ABlk.live 2 [EE m]]++[ABlk.live 3 [IP x]]=H at t ⊢
 generalize (h++[ABlk.live 2 [EE m]]).length=hb at t ⊢
 simp -implicitDefEqProofs only[vQ,BD,↓reduceIte,ldM t.gm]
 refine(AOM G m hm H).use ?_
 intro b
 cases b
 ·simp -implicitDefEqProofs only[vQ,CO,BD,EY,↓reduceIte,jB]
  refine(AB7 G hG hT H).use ?_
  simp -implicitDefEqProofs only[vQ,BD,↓reduceIte]
  exact⟨by trivial,t.hx⟩
 simp -implicitDefEqProofs only[vQ,CO,BD,↓reduceIte,jB,jV,enP,JV,LH,ZZ t.gh,jH]
 rcases Bool.eq_false_or_eq_true (decide (((x.bins.length:Nat):Int) > 10)) with h1 | h1
 ·simp -implicitDefEqProofs only[vQ,BD,h1]
  refine(AB7 G hG hT H).use ?_
  simp -implicitDefEqProofs only[vQ,BD,↓reduceIte]
  exact⟨by trivial,t.hx⟩
 simp -implicitDefEqProofs only[vQ,BD,↓reduceIte,jB,enP,h1,ldM t.gm,ldH t.gh]
 refine(V5 G hG m hm x hn H).use ?_
 unfold cnV
 simp -implicitDefEqProofs only[vQ,zM,zO,BD,↓reduceIte,jB,enP,ldM t.gm,ldH t.gh]
 refine(AFZ G m hm x hn H).use ?_
 unfold cnV
 rw[← A3O m x]
 cases hz:decide (cnE I7 m x=0)
 ·have hz' : ¬ cnE I7 m x=0:=by simpa using hz
  rw[if_neg hz',if_neg hz']
  simp -implicitDefEqProofs only[vQ,zM,zO,CO,BD,↓reduceIte,jB,enP,beq_self_eq_true]
  refine(AUN G H).use ?_
  simp -implicitDefEqProofs only[vQ,CO,BD,↓reduceIte,jB]
  refine(AB7 G hG hT H).use ?_
  simp -implicitDefEqProofs only[vQ,BD,↓reduceIte,jB]
  exact⟨by trivial,t.hx⟩
 ·have hz':cnE I7 m x=0:=by simpa using hz
  rw[if_pos hz',if_pos hz']
  simp -implicitDefEqProofs only[vQ,zM,zO,CO,BD,↓reduceIte,jB,enP,beq_self_eq_true]
  refine(AYJ G hm (A0G hz') H).use ?_
  simp -implicitDefEqProofs only[vQ,CO,BD,↓reduceIte,jB]
  refine(AB7 G hG hT H).use ?_
  simp -implicitDefEqProofs only[vQ,BD,↓reduceIte,jB]
  exact⟨by trivial,t.hx⟩
end
end Go.Proofs.YtfpagfhhhlljjaaGreatDoor.Ho
