/- Part 18 of the proof (O38, O39, O40, O41, O43, O47, O48, O49, O50); no condition. -/
import Derived.Shelf.Strings.OnBuilder
import Derived.Test.YtfpagfhhhlljjaaGreatDoorYC17
set_option linter.unusedVariables false
namespace Go.Proofs.YtfpagfhhhlljjaaGreatDoor.Ho
open Sm Bins Cov Go.RowKit
open List renaming map_cons→jE,length_cons→zW,length_map→jI
def AFF:Go.Shelf.Ren:=⟨fun | 156=>33 | 165=>62 | 166=>63 | 169=>64 | 240=>98 | 241=>99 | 276=>140 | 277=>141 | n=>n,fun | 31=>65 | 9=>9 | 3=>3 | 4=>4 | 0=>0 | 20=>20 | 72=>102 | 76=>106 | 70=>99 | 37=>100 | 75=>105 | 127=>141 | 164=>170 | 5=>5 | 80=>108 | n=>n,fun | n=>n⟩
theorem A5A:Go.Proofs.Lays.n156 Tryz.prog AFF := {
 mixed:=by kernel_rfl,
 f156:=Tryz.func33.trans (congrArg some (by kernel_rfl)),
 f165:=Tryz.func62.trans (congrArg some (by kernel_rfl)),
 f166:=Tryz.func63.trans (congrArg some (by kernel_rfl)),
 f169:=Tryz.func64.trans (congrArg some (by kernel_rfl)),
 f240:=Tryz.func98.trans (congrArg some (by kernel_rfl)),
 f241:=Tryz.func99.trans (congrArg some (by kernel_rfl)),
 f276:=Tryz.func140.trans (congrArg some (by kernel_rfl)),
 f277:=Tryz.func141.trans (congrArg some (by kernel_rfl)),
 t0:=Tryz.underlying0,
 a0:=Tryz.isAgg0,
 z0:=Tryz.sizeOf0,
 v0:=Tryz.zeroValue0,
 t3:=Tryz.underlying3,
 a3:=Tryz.isAgg3,
 z3:=Tryz.sizeOf3,
 v3:=Tryz.zeroValue3,
 t4:=Tryz.underlying4,
 a4:=Tryz.isAgg4,
 z4:=Tryz.sizeOf4,
 v4:=Tryz.zeroValue4,
 t9:=Tryz.underlying9,
 a9:=Tryz.isAgg9,
 z9:=Tryz.sizeOf9,
 v9:=Tryz.zeroValue9,
 t20:=Tryz.underlying20,
 a20:=Tryz.isAgg20,
 z20:=Tryz.sizeOf20,
 v20:=Tryz.zeroValue20,
 t31:=Tryz.underlying65,
 a31:=Tryz.isAgg65,
 z31:=Tryz.sizeOf65,
 v31:=Tryz.zeroValue65,
 t37:=Tryz.underlying100,
 a37:=Tryz.isAgg100,
 z37:=Tryz.sizeOf100,
 v37:=Tryz.zeroValue100,
 t70:=Tryz.underlying99,
 a70:=Tryz.isAgg99,
 z70:=Tryz.sizeOf99,
 v70:=Tryz.zeroValue99,
 t72:=Tryz.underlying102,
 a72:=Tryz.isAgg102,
 z72:=Tryz.sizeOf102,
 v72:=Tryz.zeroValue102,
 t75:=Tryz.underlying105,
 a75:=Tryz.isAgg105,
 z75:=Tryz.sizeOf105,
 v75:=Tryz.zeroValue105,
 t76:=Tryz.underlying106,
 a76:=Tryz.isAgg106,
 z76:=Tryz.sizeOf106,
 v76:=Tryz.zeroValue106,
 t127:=Tryz.underlying141,
 a127:=Tryz.isAgg141,
 z127:=Tryz.sizeOf141,
 v127:=Tryz.zeroValue141,
 t164:=Tryz.underlying170,
 a164:=Tryz.isAgg170,
 z164:=Tryz.sizeOf170,
 v164:=Tryz.zeroValue170 }
theorem A49:Builder.Extra Tryz.prog AFF := {
 t5:=Tryz.underlying5,
 a5:=Tryz.isAgg5,
 z5:=Tryz.sizeOf5,
 v5:=Tryz.zeroValue5,
 infoByte:=by kernel_rfl,
 cellsByte:=by kernel_rfl,
 sizeByte:=by kernel_rfl,
 neB5:=by decide,
 sizeBuilder:=by kernel_rfl,
 liesBuilder:=by kernel_rfl }
def VX (xs:List ByteArray):ByteArray:=⟨(Lib.join (xs.map (·.data.toList)) [44]).toArray⟩
def ADE (s:ByteArray):List AV := [.str s]
theorem ARY (G:Nat→AV) (xs:List ByteArray) (s:SM) (hne:xs≠[]) (hN:xs.length≤4) (hl : ∀ x∈xs,x.size≤1099511627776) (h:Hp):PCall (En G) 33 [.sl s 1 (xs.map ADE),.str comma] h (.str (VX xs)):=by
 refine ⟨cok 33 G (by kernel_rfl),fun g w cargs S ha => ?_⟩
 obtain ⟨hsz,hget⟩:=ha
 obtain ⟨cv0,cv1,rfl⟩ : ∃ a b,cargs = #[a,b]:=by
  obtain ⟨l⟩:=cargs
  match l,hsz with
  | [a,b],_=>exact ⟨a,b,rfl⟩
 have h0:=(hget 0 _ cv0 rfl rfl).sl_inv
 obtain rfl:=(hget 1 _ cv1 rfl rfl).str_inv
 generalize hq:xs.map ADE=rows at h0
 cases h0 with
 | nil=>cases xs with
   | nil=>exact absurd rfl hne
   | cons a t=>cases hq
 | empty=>cases xs with
   | nil=>exact absurd rfl hne
   | cons a t=>cases hq
 | sl m k rs cb co c e fz cap cv h1 h2 h3 h4 h5 h6 h7 h8 =>
   subst hq
   have hlen:(Lib.join (xs.map (·.data.toList)) comma.data.toList).length≤140737488355328:=by
    cases xs with
    | nil=>exact absurd rfl hne
    | cons a t =>
      rw [jE,Lib.join_length]
      have hlens : ∀ l:List ByteArray,(∀ x∈l,x.size≤1099511627776)→Lib.lens (l.map (·.data.toList))≤l.length * 1099511627776:=by
       intro l
       induction l with
       | nil=>intro _; simp [Lib.lens]
       | cons y r ih =>
         intro hy
         have a1:=ih fun z hz=>hy z (List.mem_cons_of_mem _ hz)
         have a2:y.data.toList.length≤1099511627776:=hy y (by simp)
         simp only [Lib.lens,jE,List.sum_cons,zW] at a1 ⊢
         omega
      have a1:=hlens (a :: t) hl
      rw [jE] at a1
      have a3:comma.data.toList.length=1:=rfl
      rw [a3,jI]
      simp only [zW] at a1 hN ⊢
      omega
   have hcall:=Any.strings_Join A5A A49 cb co cap xs comma w (fun j x hx => ?_) ?_ (by omega) (by simpa using h7) hlen
   ·rw [jI]
    refine hcall.mono ?_
    rintro e' w' ⟨rfl,hb⟩
    exact ⟨_,_,g,h,rfl,⟨rfl,rfl⟩,Gh.le.refl g,S.below hb,.fro (.str _)⟩
   ·obtain ⟨hj,rfl⟩:=List.getElem?_eq_some_iff.1 hx
    have hc5:=h5 j 0 (by rw [jI]; exact hj) (by omega)
    have hc6:=h6 j 0 (ADE xs[j]) (.str xs[j]) (by rw [List.getElem?_map,List.getElem?_eq_getElem hj]; rfl) rfl
    have hc7:cv j 0 = .string xs[j]:=(Rep.fro (g:=g) hc6).str_inv
    rw [Nat.mul_one,Nat.add_zero,hc7] at hc5
    have hm:=S.fro _ _ h3
    simp only [World.cell?,hm]
    exact hc5
   ·exact (Array.getElem?_eq_some_iff.1 (S.fro _ _ h3)).1
def nmQ (m:Mo) (q:Nat × Nat):ByteArray:=V5 m (q.1:Int) (q.2:Int)
theorem AHQ {a b:ByteArray} (h:a.data.toList=b.data.toList):a=b:=ByteArray.ext (Array.ext' h)
theorem AT9 (m:Mo) : ∀ (L:List (Nat × Nat)) (s:ByteArray),prN m s false (L.map fun q=>(q.1:Int)) (L.map fun q=>(q.2:Int))=s ++ ⟨(Lib.joinTail [44] ((L.map (nmQ m)).map (·.data.toList))).toArray⟩:=by
 intro L
 induction L with
 | nil=>intro s; apply AHQ; simp [prN,Lib.joinTail]
 | cons q r ih =>
   intro s
   show prN m ((if false=true then s else s ++ comma) ++ V5 m q.1 q.2) false _ _=_
   rw [if_neg (by decide)]
   have:=ih (s ++ comma ++ V5 m q.1 q.2)
   rw [this]
   apply AHQ
   simp [Lib.joinTail,nmQ,comma]
theorem AUA (m:Mo) (L:List (Nat × Nat)) (hL:L≠[]) (s:ByteArray):prN m s true (L.map fun q=>(q.1:Int)) (L.map fun q=>(q.2:Int))=s ++ VX (L.map (nmQ m)):=by
 cases L with
 | nil=>exact absurd rfl hL
 | cons q r =>
   show prN m ((if true=true then s else s ++ comma) ++ V5 m q.1 q.2) false _ _=_
   rw [if_pos rfl]
   have:=AT9 m r (s ++ V5 m q.1 q.2)
   rw [this]
   apply AHQ
   unfold VX
   simp only [jE]
   rw [Lib.join_cons]
   simp [nmQ]
end Go.Proofs.YtfpagfhhhlljjaaGreatDoor.Ho
set_option linter.unusedSimpArgs false
set_option maxRecDepth 8000
namespace Go.Proofs.YtfpagfhhhlljjaaGreatDoor.Ho
open Sm Bins Cov Go.RowKit
open Bool renaming or_false→jR,not_false→jB,false_eq_true→zA
open Int renaming toNat_natCast→qG
open List renaming mem_map→zJ,getElem?_eq_getElem→jL,map_cons→jE,length_cons→zW,length_map→jI,length_nil→qE,getElem_mem→jO,contains_cons→jS,contains_nil→jJ,map_nil→jD,append_nil→jF,take_of_length_le→jW,drop_zero→zO
open Nat renaming le_trans→qJ,reduceBEq→jP,reduceEqDiff→jC,reduceAdd→jQ,add_zero→jM,zero_add→jG
open Option renaming getD_some→jA
theorem A5I : ∀ l:List ByteArray,LH (l.map ADE)=true:=fun l=>by
 unfold LH
 rw [List.all_eq_true]
 intro row hr
 obtain ⟨c,_,rfl⟩:=zJ.1 hr; rfl
theorem A52 (h:Hp) (s:ByteArray):EN Tryz.prog false h 65 1 [(0,.str s)]=some (.sl .full 1 [[.str s]],h):=by kernel_rfl
theorem AUM {m:Mo} {q:Nat × Nat} (h1:q.1 < m.pts.length) (h2:q.2 < m.pts[q.1].bins.length):nmQ m q=m.pts[q.1].bins[q.2].name:=by
 have hbe:JQ m (q.1:Int)=m.pts[q.1].bins:=by unfold JQ; rw [qG,jL h1]
 unfold nmQ V5
 rw [hbe,qG,jL h2]
theorem AM9 (xs:List ByteArray) (hN:xs.length≤4) (hl : ∀ x∈xs,x.size≤1099511627776):(VX xs).size≤4398046511107:=by
 show (VX xs).data.toList.length≤_
 unfold VX
 simp only
 cases xs with
 | nil=>simp [Lib.join_nil]
 | cons a t =>
   rw [jE,Lib.join_length]
   have hlens : ∀ l:List ByteArray,(∀ x∈l,x.size≤1099511627776)→Lib.lens (l.map (·.data.toList))≤l.length * 1099511627776:=by
    intro l
    induction l with
    | nil=>intro _; simp [Lib.lens]
    | cons y r ih =>
      intro hy
      have a1:=ih fun z hz=>hy z (List.mem_cons_of_mem _ hz)
      have a2:y.data.toList.length≤1099511627776:=hy y (by simp)
      simp only [Lib.lens,jE,List.sum_cons,zW] at a1 ⊢
      omega
   have a1:=hlens (a :: t) hl
   rw [jE] at a1
   rw [jI]
   simp only [zW,qE] at a1 hN ⊢
   omega
theorem AT8 {x:Hl} {L:List (Nat × Nat)} (hL:x.bins=L.map fun q=>(q.2:Int)) {j:Nat} (hj:j < L.length) : ∃ hb:j < x.bins.length,x.bins[j]=((L[j].2:Nat):Int):=by
 have hb:j < x.bins.length:=by rw [hL,jI]; exact hj
 refine ⟨hb,?_⟩
 have:x.bins[j]? = (L.map fun q=>((q.2:Nat):Int))[j]? := by rw [← hL]
 rw [jL hb,List.getElem?_map,jL hj] at this
 simpa using this
theorem ARZ (a:ByteArray):VX [a]=a:=by
 apply AHQ
 unfold VX
 simp [Lib.join_one]
theorem AYP {m:Mo} (hm:MoOk m) {x:Hl} (hv:NZ m x=true) : ∃ q0,(KQ m x)[0]? = some q0∧∃ nm0:ByteArray,nm0.size≤1099511627776∧prH m x=nm0 ++ dot ++ VX ((KQ m x).map (nmQ m))∧(x.cross=false→∃ h1:q0.1 < m.pts.length,nm0=m.pts[q0.1].name) ∧
  (x.cross=true→∃ i,∃ hi:i < m.crs.length,x.idx=(i:Int)∧nm0=m.crs[i].name):=by
 have hL:=WH hv
 have hps:=hL.pts
 have hbn:=hL.bins
 have hl1:=hL.n1
 cases hc:x.cross
 ·obtain ⟨i,hi,k,hk,hz,hb,hkd,hg⟩:=PY hv hc
  have hp:UW m x = [(i:Int)]:=by unfold UW; rw [if_neg (by rw [hc]; decide),hz]
  rw [hp] at hps
  have hpr:prH m x=m.pts[i].name ++ dot ++ V5 m (i:Int) (k:Int):=by
   unfold prH
   rw [if_pos hv,if_neg (by rw [hc]; decide),hz,AGL hi]
   show m.pts[i].name ++ dot ++ V5 m x.idx (x.bins.headD 0)=_
   rw [hz,hb]; rfl
  rw [hb] at hbn
  generalize KQ m x=L at hps hbn
  match L,hps,hbn with
  | [q],hps,hbn =>
    simp at hps hbn
    obtain ⟨a,b⟩:=q
    simp at hps hbn
    obtain rfl:a=i:=by omega
    obtain rfl:b=k:=by omega
    exact ⟨_,rfl,m.pts[a].name,qJ (hm.pts _ (jO hi)).name (by omega),by rw [hpr]; exact congrArg _ (ARZ _).symm,fun _=>⟨hi,rfl⟩,fun q=>by cases q⟩
 ·obtain ⟨i,hi,hz,hin,hh,hg⟩:=PZ hv hc
  have hp:UW m x=m.crs[i].pts:=by unfold UW; rw [if_pos hc,hz,O8 hi]
  rw [hp] at hps
  have hpr:prH m x=prN m (m.crs[i].name ++ dot) true m.crs[i].pts x.bins:=by
   unfold prH
   rw [if_pos hv,if_pos hc,hz,O8 hi]; rfl
  rw [hps,hbn] at hpr
  have hne:KQ m x≠[]:=by intro q; rw [q] at hl1; simp at hl1
  rw [AUA m _ hne] at hpr
  exact ⟨_,jL (show 0 < (KQ m x).length by omega),m.crs[i].name,qJ (hm.crs _ (jO hi)).name (by omega),hpr,fun q=>(by cases q),fun _=>⟨i,hi,hz,rfl⟩⟩
section
variable (G:Nat→AV)
set_option maxHeartbeats 4000000 in
theorem AMT (hG:GOk G) (m:Mo) (hm:MoOk m) (x:Hl) (hn:x.bins.length≤1048576) (h:Hp):PCall (En G) 13 [.agg (EE m),.agg (IP x)] h (.str (prH m x)):=by
 refine ACalls.pure (R:=fun v H=>v = .str (prH m x)∧Sm.ext h H) 3 ?_ (fun v H ⟨a,b⟩=>⟨b,by rw [a]; rfl⟩)
 refine NY (H:=hint [38] [(62,[61])]) (enM G) Tryz.func13 rfl (by kernel_rfl) (by kernel_rfl) (Nat.le_of_ble_eq_true (by kernel_rfl)) ?_
 show awp _ _ _ _ _ (D8 _ [.tmp 4] _)
 have t:=Hb.mk' h m x
 simp -implicitDefEqProofs only [DC,jS,jJ,jP,jR,BC,BA,A8,AY,BB,AL,BD,AX,AC,AA,AZ,AU,H9,A7,FM,BX,CB,BF,BL,↓reduceIte,jC,jA,jB,enP,zA,GM,bxM,bxH]
 generalize h ++ [ABlk.live 2 [EE m]] ++ [ABlk.live 3 [IP x]]=H at t ⊢
 generalize (h ++ [ABlk.live 2 [EE m]]).length=hb at t ⊢
 simp -implicitDefEqProofs only [DC,jS,jJ,jP,jR,AY,AL,BD,AX,AC,AA,AZ,BU,BX,BZ,BO,AB,jE,jD,jF,↓reduceIte,jC,jA,jB,enP,zA,GM,ldM t.gm,ldH t.gh]
 refine (valid_prog G hG m hm x hn H).use ?_
 cases hv:NZ m x
 ·simp -implicitDefEqProofs only [DC,jS,jJ,jP,jR,BC,BA,BJ,BI,A8,CQ,CJ,CZ,AY,BB,AL,BD,AX,AC,AA,AZ,AU,H9,A7,GU,AB,EP,↓reduceIte,jA,jB,zA,GM]
  exact ⟨by unfold prH; rw [hv]; rfl,t.hx⟩
 have h0:=AGE hv
 have hL:=WH hv
 have hhp : ∀ H,∃ s,PCall (En G) 32 [.agg (EE m),.agg (IP x)] H (.sl s 1 ((UW m x).map Bins.qencI)):=fun H=>AFA G m x hv H
 have hps:=hL.pts
 rw [hps] at hhp
 obtain ⟨s,hp⟩:=hhp H
 simp -implicitDefEqProofs only [DC,jS,jJ,jP,jR,BC,BA,BR,BI,A8,DI,AY,BB,AL,BD,AX,AC,AA,AZ,AU,BU,GZ,A7,BX,GU,BZ,BO,AB,EP,jE,jD,jF,↓reduceIte,jC,jA,Bool.not_true,jB,enP,zA,GM,ldM t.gm,ldH t.gh]
 refine hp.use ?_
 have hln:=hL.n4
 have hl1:=hL.n1
 have hnames : ∀ q∈KQ m x,∃ h1:q.1 < m.pts.length,∃ h2:q.2 < m.pts[q.1].bins.length,nmQ m q=m.pts[q.1].bins[q.2].name∧(nmQ m q).size≤1099511627776:=fun q hq=>by
  obtain ⟨h1,h2⟩:=hL.ok _ hq
  have hpo:=hm.pts _ (jO h1)
  exact ⟨h1,h2,AUM h1 h2,by rw [AUM h1 h2]; exact (hpo.bins _ (jO h2)).name⟩
 have hbn:=hL.bins
 -- what it is to say
 have hsay:=AYP hm hv
 generalize KQ m x=L at hL hln hl1 hnames hbn hsay hps hhp
 simp -implicitDefEqProofs only [DC,jS,jJ,jP,jR,BP,A8,AY,BB,AL,BD,AX,AC,AA,AZ,AU,BH,BG,D6,AB,↓reduceIte,jA,jB,enP,KH,zA,GM,jI]
 refine JA 0 (fun F H' => ∃ v,F 2 = .ptr h.length 0 0∧F 3 = .ptr hb 0 0∧F 5=v∧Sm.ext H H'∧outG 1 ADE H (L.map (nmQ m)) v H') (fun _ _=>False) ?_ ?_ (fun _ _ q=>q.elim)
 ·refine DY (fun n F H' => ∃ j v,n+j=L.length∧F 2 = .ptr h.length 0 0∧F 3 = .ptr hb 0 0∧F 5=v∧F 15 = .sl s 1 ((L.map fun q=>((q.1:Nat):Int)).map Bins.qencI)∧F 16 = .int .i64 (L.length:Nat)∧F 17 = .int .i64 (j:Nat)∧Sm.ext H H'∧outG 1 ADE H ((L.take j).map (nmQ m)) v H') L.length
   ⟨0,.sl .nil 0 [],by simp,by simp -implicitDefEqProofs only [AA,↓reduceIte,jC],by simp -implicitDefEqProofs only [AA,↓reduceIte,jC],by simp -implicitDefEqProofs only [AA,↓reduceIte,jC],by simp -implicitDefEqProofs only [AA,↓reduceIte,jC],by simp -implicitDefEqProofs only [AA,↓reduceIte,jC],by simp -implicitDefEqProofs only [AA,↓reduceIte] <;> rfl,ext.rfl' _,by rw [List.take_zero]; exact outG.nil _ _ _ _⟩ ?_
  rintro n F H' ⟨j,v,hj,f2,f3,f5,f15,f16,f17,hx,ho⟩
  simp -implicitDefEqProofs only [DC,jS,jJ,jP,jR,BC,BA,BI,A8,AY,BB,AL,BD,AX,AC,AA,AZ,BQ,AB,C9,↓reduceIte,jA,jB,enP,zA,GM,f16,f17]
  refine CV (fun hc => ?_) (fun hc => ?_)
  ·have hj':j < L.length:=by simpa using hc
   have gm:=E8 hx t.gm
   have gh:=E8 hx t.gh
   obtain ⟨hb2,hbj⟩:=AT8 hbn hj'
   have hj2:j < (L.map fun q=>((q.1:Nat):Int)).length:=by rw [jI]; exact hj'
   have hg:(L.map fun q=>((q.1:Nat):Int))[j]=((L[j].1:Nat):Int):=by simp
   obtain ⟨q1,q2,hnm,hns⟩:=hnames _ (jO hj')
   have hlen:((L.take j).map (nmQ m)).length < 8388608:=by rw [jI,List.length_take]; omega
   obtain ⟨v',H2,ha,ho2,_,he2,_,_⟩:=ho.append (P:=Tryz.prog) AX2 sz9 AXQ A0I (by omega) hlen hx (nmQ m L[j])
   have ha':FZ Tryz.prog true H' 65 65 v (.sl .full 1 [[.str (nmQ m L[j])]])=some (v',H2):=ha
   rw [hnm] at ha'
   have hst:(L.take (j+1)).map (nmQ m)=(L.take j).map (nmQ m) ++ [nmQ m L[j]]:=by
    rw [List.take_succ_eq_append_getElem hj',List.map_append]; rfl
   simp -implicitDefEqProofs only [DC,jS,jJ,jP,jR,BC,BP,BA,BR,A8,AY,BB,AL,BD,AX,AC,AA,AZ,BG,A7,BX,CG,AB,↓reduceIte,jC,jA,jB,enP,JS,zA,GM,f15,f17,D7 hj2,DZ ag3 hj2,Cov.encI0,hg]
   refine FN (by kernel_rfl) ?_
   simp -implicitDefEqProofs only [G5,FK,FH,DC,jS,jJ,jP,jR,EM,D9,FU,EQ,GH,JI,I8,FT,EX,EU,JM,BA,A8,EH,ER,AY,BB,AL,BD,AX,AC,AA,AZ,AU,BH,BG,EC,BX,BQ,BN,CG,GL,CB,AB,DK,↓reduceIte,jC,jQ,jM,jG,jA,jB,enP,WQ,JV,JS,PL,ZC,KU,ANO,zA,GM,f2,f3,f5,f17,UR gm,D7 q1,DZ AD1 q1,U0,AJ0 gh,D7 hb2,DZ ag3 hb2,Cov.encI0,hbj,D7 q2,DZ ag9 q2,AV6,A52,ha',wrap_succ (show j < 9223372036854775807 by omega)]
   refine ⟨n - 1,by omega,j+1,v',by omega,by first | exact True.intro | exact f2,by first | exact True.intro | exact f3,by first | exact True.intro | exact rfl,by first | exact True.intro | exact f15,by first | exact True.intro | exact f16,by first | exact True.intro | exact rfl,he2,by rw [hst]; exact ho2⟩
  ·have hj' : ¬ j < L.length:=by simpa using hc
   rw [jW (by omega)] at ho
   simp -implicitDefEqProofs only [DW,EG,NG,EZ,AA,↓reduceIte,jC]
   exact ⟨v,by first | exact True.intro | exact f2,by first | exact True.intro | exact f3,by first | exact True.intro | exact f5,hx,ho⟩
 rintro F H' ⟨v,f2,f3,f5,hx,ho⟩
 obtain ⟨q0,hq0,nm0,hns0,hsay,hs1,hs2⟩:=hsay
 obtain ⟨h0L,hq0'⟩:=List.getElem?_eq_some_iff.1 hq0
 have hj2:0 < (L.map fun q=>((q.1:Nat):Int)).length:=by rw [jI]; exact h0L
 have hg0:(L.map fun q=>((q.1:Nat):Int))[0]=((q0.1:Nat):Int):=by simp [hq0']
 have hne:L.map (nmQ m)≠[]:=by intro q; have:=congrArg List.length q; rw [jI,qE] at this; omega
 have hsz : ∀ y∈L.map (nmQ m),y.size≤1099511627776:=fun y hy=>by
  obtain ⟨q,hq,rfl⟩:=zJ.1 hy
  obtain ⟨_,_,_,h4⟩:=hnames q hq
  exact h4
 have hln4:(L.map (nmQ m)).length≤4:=by rw [jI]; exact hln
 have hjs:=AM9 _ hln4 hsz
 obtain ⟨q1,_,_,_⟩:=hnames q0 (by rw [← hq0']; exact jO h0L)
 have gm:=E8 hx t.gm
 have gh:=E8 hx t.gh
 have l0:=AU2 gh
 have a1:=AO7 (a:=nm0) (b:=dot) (by rw [AK2]; omega)
 have a2:=AO7 (a:=nm0 ++ dot) (b:=VX (L.map (nmQ m))) (by rw [ByteArray.size_append,AK2]; omega)
 obtain ⟨s',hp2⟩:=hhp H'
 have hix0:JG 1 H' (.sl s' 1 ((L.map fun q=>((q.1:Nat):Int)).map Bins.qencI)) (.int .i64 0)=some (.fptr 1 ((L.map fun q=>((q.1:Nat):Int)).map Bins.qencI) 0 0):=D7 hj2
 have hld0:DX Tryz.prog H' 3 (.fptr 1 ((L.map fun q=>((q.1:Nat):Int)).map Bins.qencI) 0 0)=some (.int .i64 (q0.1:Nat)):=(DZ ag3 hj2).trans (by rw [hg0]; rfl)
 generalize hN:L.map (nmQ m)=NS at ho hne hsz hln4 hjs a2 hsay
 obtain ⟨o,rfl,ho1,hob⟩ : ∃ o,v = .own o 0 NS.length∧H.length≤o∧H'[o]? = some (.live 1 (NS.map ADE)):=by
  rcases ho with ⟨e1,_⟩ | ⟨_,o,h1,h2,h3⟩
  ·exact absurd e1 hne
  ·exact ⟨o,h2,h1,h3⟩
 have hz:=AKJ (i:=61) (off:=0) (len:=NS.length) hob (by simp) (by rw [zO,jW (by simp)]; exact A5I NS)
 rw [zO,jW (by simp)] at hz
 have hx2:=t.hx.trans (hx.set ho1 .dead)
 have hjp:=fun H=>ARY G NS .any hne hln4 hsz H
 simp -implicitDefEqProofs only [BC,A8,EY,↓reduceIte]
 refine FN (by kernel_rfl) ?_
 simp -implicitDefEqProofs only [G5,DC,jS,jJ,jP,jR,EM,D9,EQ,FT,EX,EU,H6,GN,AA,AZ,AU,BU,BH,BX,BN,CG,AB,jE,jD,jF,↓reduceIte,jC,jQ,jM,jA,enP,JV,JS,f2,f3,ldM gm,UR gm,ldH gh]
 refine ⟨_,hp2,?_⟩
 simp -implicitDefEqProofs only [G5,DC,jS,jJ,jP,jR,EM,D9,FU,EQ,JI,FT,EX,EU,BC,BA,A8,AY,AL,BD,AX,AA,AZ,BX,BN,CG,AB,↓reduceIte,jC,jQ,jM,jA,jB,enP,WQ,ANP,zA,GM,hix0,hld0,D7 q1,DZ ag9 q1,AV0,l0]
 cases hcr:x.cross
 ·obtain ⟨_,e⟩:=hs1 hcr
  rw [e] at a1 a2
  simp -implicitDefEqProofs only [DC,jS,jJ,jP,jR,BC,BA,BR,BI,A8,DI,AY,BB,AL,BD,AX,AC,AA,AZ,AU,BU,H9,BG,BX,BQ,BZ,BO,AB,jE,jD,jF,↓reduceIte,jC,jM,jA,jB,enP,ZN,zA,GM,f3,l0,hcr,f5,a1,ACU,AL,hz]
  refine (hjp _).use ?_
  simp -implicitDefEqProofs only [DC,jS,jJ,jP,jR,BJ,A8,CJ,AY,BB,AL,BD,AX,AC,AA,AZ,A7,BQ,AB,↓reduceIte,jC,jA,jB,enP,zA,GM,a1,a2]
  exact ⟨by rw [hsay,e],hx2⟩
 ·obtain ⟨i,hi,hz2,e⟩:=hs2 hcr
  have l1:=AM6 gh
  rw [hz2] at l1
  rw [e] at a1 a2
  simp -implicitDefEqProofs only [DC,jS,jJ,jP,jR,BC,BA,BI,A8,CZ,AY,BB,AL,BD,AX,AC,AA,AZ,AU,BU,H9,BG,A7,BX,BQ,BN,CG,BZ,BO,AB,jE,jD,jF,↓reduceIte,jC,jM,jG,jA,jB,enP,XZ,L8,ZN,PM,ANM,zA,GM,f2,f3,l0,hcr,l1,AEG gm,D7 hi,DZ ag9 hi,AQB,f5,a1,ACU,AL,hz]
  refine (hjp _).use ?_
  simp -implicitDefEqProofs only [DC,jS,jJ,jP,jR,BJ,A8,CJ,AY,BB,AL,BD,AX,AC,AA,AZ,A7,BQ,AB,↓reduceIte,jC,jA,jB,enP,zA,GM,a1,a2]
  exact ⟨by rw [hsay,e],hx2⟩
end
end Go.Proofs.YtfpagfhhhlljjaaGreatDoor.Ho
set_option linter.unusedSimpArgs false
set_option maxRecDepth 8000
namespace Go.Proofs.YtfpagfhhhlljjaaGreatDoor.Ho
open Sm Bins Cov Xe Go.RowKit
open Bool renaming not_false→jB,and_eq_true→jU,true_and→qM,not_true→jV
open Int renaming toNat_natCast→qG
open List renaming map_nil→jD,append_nil→jF,mem_cons→qI,mem_singleton→wG,map_cons→jE,getElem?_cons_zero→zH,getElem?_cons_succ→zL,length_nil→qE,all_eq_true→zF,length_map→jI,getD_eq_getElem?_getD→jZ,getElem?_drop→qR,getElem?_map→jX,eq_nil_of_length_eq_zero→wQ,getElem?_eq_getElem→jL,getElem_mem→jO,mem_cons_of_mem→qW,mem_map→zJ
open Nat renaming le_refl→jK,le_of_ble_eq_true→jH,reduceEqDiff→jC,reduceAdd→jQ,zero_add→jG,lt_or_ge→zK
open Option renaming getD_some→jA,getD_none→jT
abbrev QW:ByteArray:=⟨#[107,105,110,100]⟩
def kE:Ex := .mk 2 0 QW .nil []
def A7W:Bin:=mkB ⟨#[108,111,119]⟩ 0 0 3
def A7X:Bin:=mkB ⟨#[98,97,100]⟩ 2 2 2
def kP:Pt:=⟨⟨#[112]⟩,kE,.full,[A7W,A7X]⟩
def kM:Mo:=⟨.full,[kP],.nil,[]⟩
def kH:Hl:=⟨false,0,.full,[0]⟩
def wE:List AV := [.int .i64 2,.int .i64 0,.str QW,.sl .nil 0 []]
def wL:List AV:=rowB ⟨#[108,111,119]⟩ 0 0 3
def wB:List AV:=rowB ⟨#[98,97,100]⟩ 2 2 2
def wP:List AV := .str ⟨#[112]⟩ :: (wE ++ [.sl .full 4 [wL,wB]])
def wM:List AV := [.sl .full 6 [wP],.sl .nil 0 []]
theorem wcB (s:ByteArray) (k lo hi:Int):CvRow (rowB s k lo hi) (GV (mkB s k lo hi)):=CvRow.cons rfl (Cv.refl _) (CvRow.cons rfl (Cv.refl _) (CvRow.cons rfl (Cv.refl _) (CvRow.cons rfl (Cv.nil 0 1) CvRow.nil)))
theorem wcP (s:ByteArray) {xs ys:List (List AV)} (h:Cv (.sl .full 4 xs) (.sl .full 4 ys)):CvRow (.str s :: (wE ++ [.sl .full 4 xs])) (.str s :: (CY kE ++ [.sl .full 4 ys])) :=
 CvRow.cons rfl (Cv.refl _) (CvRow.cons rfl (Cv.refl _) (CvRow.cons rfl (Cv.refl _) (CvRow.cons rfl (Cv.refl _) (CvRow.cons rfl (Cv.nil 0 4) (CvRow.cons rfl h CvRow.nil)))))
theorem wc2 {m:SM} {k:Nat} {a b a' b':List AV} (h1:CvRow a a') (h2:CvRow b b'):Cv (.sl m k [a,b]) (.sl m k [a',b']):=Cv.rows rfl fun i r r' e1 e2=>by
 match i,e1,e2 with
 | 0,e1,e2=>cases e1; cases e2; exact h1
 | 1,e1,e2=>cases e1; cases e2; exact h2
 | _+2,e1,_=>cases e1
theorem wc1 {m:SM} {k:Nat} {a a':List AV} (h1:CvRow a a'):Cv (.sl m k [a]) (.sl m k [a']):=Cv.rows rfl fun i r r' e1 e2=>by
 match i,e1,e2 with
 | 0,e1,e2=>cases e1; cases e2; exact h1
 | _+1,e1,_=>cases e1
theorem A3V:CvR (.agg wM) (.agg (EE kM)) :=
 CvR.agg (CvRL.cons (CvR.sl (wc1 (wcP _ (wc2 (wcB _ _ _ _) (wcB _ _ _ _))))) (CvRL.cons (CvR.sl (Cv.nil 0 3)) CvRL.nil))
theorem A6R (h:Hp):JY Tryz.prog h 48=some (.ptr h.length 0 0,h ++ [.live 4 [[.int .i64 0,.int .i64 0,.str ⟨#[]⟩,.sl .nil 0 []]]]):=JL (row := [.int .i64 0,.int .i64 0,.str ⟨#[]⟩,.sl .nil 0 []]) (by kernel_rfl)
theorem A36 (h:Hp) (row:List AV) (hr:row.length=4):FB Tryz.prog (h ++ [.live 4 [row]]) 48 (.ptr h.length 0 0) (.agg [.int .i64 2,.int .i64 0,.str QW,.sl .nil 0 []])=some (h ++ [.live 4 [wE]]):=by
 have h1:=NM (P:=Tryz.prog) (t:=48) (h:=h) (k:=4) (j:=0) (row:=row) (cs:=wE) (v := .agg wE) rfl MM (by rw [hr]; exact jK 4)
 have h2:splice row 0 wE=wE:=by unfold splice; simp [hr,wE]
 rw [h2] at h1
 exact h1
theorem A6C (s:ByteArray) (xs:List (List AV)):KW Tryz.prog 56 [(0,.str s),(2,.sl .full 2 xs)]=some (.agg [.str s,.int .i64 0,.sl .full 2 xs,.sl .nil 0 []]):=by kernel_rfl
theorem A54 (h:Hp):EN Tryz.prog false h 49 2 [(0,.agg wL),(1,.agg wB)]=some (.sl .full 4 [wL,wB],h):=by kernel_rfl
theorem A6D (s:ByteArray) (xs:List (List AV)):KW Tryz.prog 51 [(0,.str s),(1,.agg wE),(2,.sl .full 4 xs)]=some (.agg (.str s :: (wE ++ [.sl .full 4 xs]))):=by kernel_rfl
theorem A59 (h:Hp):EN Tryz.prog false h 22 1 [(0,.agg wP)]=some (.sl .full 6 [wP],h):=by kernel_rfl
theorem A6J:KW Tryz.prog 25 [(0,.sl .full 6 [wP])]=some (.agg wM):=by kernel_rfl
theorem A1G {H:Hp} {b:Nat} {row:List AV} (hb:H[b]? = some (.live 4 [row])) (hr:row.length=4):DX Tryz.prog H 56 (.ptr b 0 0)=some (.agg row):=by
 rw [G8 AEU YY hb rfl (by rw [hr]; exact jK 4),List.drop_zero,List.take_of_length_le (by omega)]
structure Bk (h H:Hp) (b1 b2:Nat):Prop where
 g0:H[h.length]? = some (.live 2 [[.sl .nil 0 [],.sl .nil 0 []]])
 g1:H[b1]? = some (.live 4 [wL])
 g2:H[b2]? = some (.live 4 [wB])
 hx:Sm.ext h H
theorem Bk.mk' (h:Hp):Bk h (h ++ [ABlk.live 2 [[.sl .nil 0 [],.sl .nil 0 []]]] ++ [ABlk.live 4 [wL]] ++ [ABlk.live 4 [wB]]) (h ++ [ABlk.live 2 [[.sl .nil 0 [],.sl .nil 0 []]]]).length (h ++ [ABlk.live 2 [[.sl .nil 0 [],.sl .nil 0 []]]] ++ [ABlk.live 4 [wL]]).length :=
 ⟨CU (CU (CW _ _)),CU (CW _ _),CW _ _,(((ext.rfl' h).app _).app _).app _⟩
section
variable (G:Nat→AV)
theorem A2V (h:Hp):PCall (En G) 49 [] h (.agg wE):=by
 refine ACalls.pure 3 (R:=fun v H=>v = .agg wE∧Sm.ext h H) ?_ (fun v h' ⟨e,x⟩=>⟨x,by subst e; rfl⟩)
 refine acN Tryz.func49 rfl ?_
 show awp _ _ _ _ _ (D8 _ [.cell 0 48] _)
 simp -implicitDefEqProofs only [FK,FH,BC,BA,BJ,A8,AY,BB,AO,AQ,AL,BD,AX,AC,ES,AA,AZ,AU,BH,H9,FO,KY,EI,CB,AB,DT,↓reduceIte,jC,jA,jB,enP,jT,A6R,A8I,A36 _ [.int .i64 0,.int .i64 0,.str ⟨#[]⟩,.sl .nil 0 []] rfl]
 refine ⟨trivial,.agg wE,?_,rfl,?_⟩
 ·exact RZ (P:=Tryz.prog) (h:=h) (k:=4) (row:=wE) U4 MM (jK 4)
 ·exact (ext.rfl' h).app _
set_option maxHeartbeats 2000000 in
theorem ABA (h:Hp):PCall (En G) 26 [] h (.agg (EE kM)):=by
 refine PCall.res (r := .agg wM) ?_ A3V
 refine ACalls.pure 3 (R:=fun v H=>v = .agg wM∧Sm.ext h H) ?_ (fun v h' ⟨e,x⟩=>⟨x,by subst e; rfl⟩)
 refine acN Tryz.func26 rfl ?_
 show awp _ _ _ _ _ (D8 _ [.cell 0 25] _)
 have E:=Bk.mk' h
 have r1:rowB ⟨#[108,111,119]⟩ 0 0 3=wL:=rfl
 have r2:rowB ⟨#[98,97,100]⟩ 2 2 2=wB:=rfl
 simp -implicitDefEqProofs only [FK,FH,BC,BA,A8,AY,BB,AO,AQ,AL,BD,AX,AC,ES,AA,AZ,AU,BH,H9,FO,KY,EC,EI,CB,AB,DT,↓reduceIte,jC,jA,jB,enP,jT,A8M,A6N,A50,A8H,A6C,AXA,A35 _ _ _ _ _ [.str ⟨#[]⟩,.int .i64 0,.sl .nil 0 [],.sl .nil 0 []] rfl,r1,r2]
 generalize h ++ [ABlk.live 2 [[.sl .nil 0 [],.sl .nil 0 []]]] ++ [ABlk.live 4 [wL]] ++ [ABlk.live 4 [wB]]=H at E ⊢
 generalize (h ++ [ABlk.live 2 [[.sl .nil 0 [],.sl .nil 0 []]]] ++ [ABlk.live 4 [wL]]).length=b2 at E ⊢
 generalize (h ++ [ABlk.live 2 [[.sl .nil 0 [],.sl .nil 0 []]]]).length=b1 at E ⊢
 have hst:FB Tryz.prog H 25 (.ptr h.length 0 0) (.agg wM)=some (H.set h.length (.live 2 [wM])):=by
  rw [NQ (v := .agg wM) (cs:=wM) (row := [.sl .nil 0 [],.sl .nil 0 []]) rfl A2B E.g0 (jK 2)]; rfl
 have p1:AV.str ⟨#[112]⟩ :: (wE ++ [.sl .full 4 [wL,wB]])=wP:=rfl
 refine FN (by kernel_rfl) ?_
 simp -implicitDefEqProofs only [G5,EM,D9,EQ,FT,H6,GN,AO,AA,AZ,BU,BX,jD,jF,↓reduceIte,jC,jQ,jA,enP]
 refine ⟨_,A2V G H,?_⟩
 simp -implicitDefEqProofs only [G5,FK,FH,EM,D9,OM,FU,EQ,AA6,I8,FT,NF,BJ,A8,AO,AA,AZ,AU,H9,KY,EC,BX,EI,CB,AB,DT,↓reduceIte,jC,jQ,jG,jA,enP,jT,A1G E.g1 rfl,A1G E.g2 rfl,A54,A6D,p1,A59,A6J,hst]
 rw [ADC (b:=h.length) (by simp -implicitDefEqProofs only [AA,↓reduceIte,jC]) (x := .agg wM) (by rw [G8 A6Z A2B (EJ E.g0) rfl (jK 2)]; rfl)]
 exact ⟨rfl,E.hx.set (jK _) _⟩
end
theorem k_e:cnE FV kM kH=0:=by decide +kernel
theorem A7U:prH kM kH=⟨#[112,46,108,111,119]⟩:=by decide +kernel
theorem A47:(cnL FV kM kH).map (·.map Ex.op) = [[23,4]]:=by decide +kernel
theorem A45:htV kM kH (OX kM [[(QW,3)]]) (N7 kM [[(QW,3)]])=(true,0):=by decide +kernel
theorem A7V:htV kM kH (OX kM [[(QW,2)]]) (N7 kM [[(QW,2)]])=(false,0):=by decide +kernel
theorem AVB:MoOk kM:=⟨by decide,by decide,fun p hp=>by
 simp only [kM,qI,List.not_mem_nil,or_false] at hp
 subst hp
 exact ⟨by decide +kernel,by decide,by decide,fun b hb=>by
  simp only [kP,qI,List.not_mem_nil,or_false] at hb
  rcases hb with rfl | rfl <;> exact ⟨by decide,by decide,by decide,by decide⟩⟩,fun c hc=>by cases hc⟩
theorem A46 : ∃ a b:Ex,cnL FV kM kH = [[a,b]]∧a.op=23∧b.op=4:=by
 have h:=A47
 generalize cnL FV kM kH=c at h
 rcases c with _ | ⟨r,_ | ⟨r2,t⟩⟩
 ·cases h
 ·rcases r with _ | ⟨a,_ | ⟨b,_ | ⟨c,t⟩⟩⟩
  ·cases h
  ·simp at h
  ·simp at h
   exact ⟨a,b,rfl,h.1,h.2⟩
  ·simp at h
 ·simp at h
theorem A6S (h:Hp):JY Tryz.prog h 28=some (.ptr h.length 0 0,h ++ [.live 3 [[.bool false,.int .i64 0,.sl .nil 0 []]]]):=JL (row := [.bool false,.int .i64 0,.sl .nil 0 []]) (by kernel_rfl)
theorem A37 (h:Hp) (row:List AV) (hr:row.length=3):FB Tryz.prog (h ++ [.live 3 [row]]) 28 (.ptr h.length 0 0) (.agg [.bool false,.int .i64 0,.sl .full 1 [[.int .i64 0]]])=some (h ++ [.live 3 [IP kH]]):=by
 have h1:=NM (P:=Tryz.prog) (t:=28) (h:=h) (k:=3) (j:=0) (row:=row) (cs:=IP kH) (v := .agg (IP kH)) rfl A2A (by rw [hr]; exact jK 3)
 have h2:splice row 0 (IP kH)=IP kH:=by unfold splice; simp [hr,IP]
 rw [h2] at h1
 exact h1
theorem A58 (h:Hp) (a:Int):EN Tryz.prog false h 26 1 [(0,.int .i64 a)]=some (.sl .full 1 [[.int .i64 a]],h):=by kernel_rfl
theorem A1T (s:ByteArray) (a:Int):KW Tryz.prog 59 [(0,.str s),(1,.int .i64 a)]=some (.agg [.str s,.int .i64 a]):=by kernel_rfl
theorem A1P (h:Hp) (s:ByteArray) (a:Int):EN Tryz.prog false h 60 1 [(0,.agg [.str s,.int .i64 a])]=some (.sl .full 2 [[.str s,.int .i64 a]],h):=by kernel_rfl
theorem A1S (h:Hp) (xs:List (List AV)):EN Tryz.prog false h 38 1 [(0,.sl .full 2 xs)]=some (.sl .full 1 [[.sl .full 2 xs]],h):=by kernel_rfl
def kSs (n:Int):Ss:=⟨.full,[(QW,n)]⟩
section
variable (G:Nat→AV)
theorem A44 (hG:GOk G) (hT:Q8 G) (n:Int) (hn:VO (QW,n)) (h:Hp):PCall (En G) 19 [.agg (EE kM),.agg (IP kH),.sl .full 1 [[.sl .full 2 [[.str QW,.int .i64 n]]]]] h (.tup [.bool (htV kM kH (OX kM [[(QW,n)]]) (N7 kM [[(QW,n)]])).1,.int .i64 (htV kM kH (OX kM [[(QW,n)]]) (N7 kM [[(QW,n)]])).2]) :=
 hit_prog G hG hT kM AVB kH (by decide) [kSs n] .full h (by simp) (fun x hx=>by
  rw [wG.1 hx]
  exact ⟨by simp [kSs],fun s hs=>by rw [wG.1 hs]; exact hn⟩)
set_option maxHeartbeats 2000000 in
theorem KG (hG:GOk G) (hT:Q8 G) (h:Hp):PCall (En G) 10 [] h (.bool true):=by
 refine ACalls.pure0 rfl ?_
 refine acN Tryz.func10 rfl ?_
 show awp _ _ _ _ _ (D8 _ [.tmp 0] _)
 simp -implicitDefEqProofs only [FK,FH,BC,BA,A8,AY,BB,AO,AQ,AL,BD,AX,AC,ES,AA,AZ,AU,BH,BM,A7,FO,KY,EC,EI,CB,AB,DT,↓reduceIte,jC,jA,jB,enP,jT,A58,A6B,A6S,A37 _ [.bool false,.int .i64 0,.sl .nil 0 []] rfl]
 have g:=CW h (ABlk.live 3 [IP kH])
 have hx:=(ext.rfl' h).app [ABlk.live 3 [IP kH]]
 generalize h ++ [ABlk.live 3 [IP kH]]=H at g hx ⊢
 have hv:NZ kM kH=true:=by decide +kernel
 have hC:=QN G hG kM AVB kH (by decide) H
 obtain ⟨a,b,hab,ha,hb⟩:=A46
 have hcv:cnV FV kM kH = .tup [.sl .any 1 [SC [a,b]],.int .i64 0]:=by
  unfold cnV
  rw [k_e,hab]; rfl
 rw [hcv] at hC
 have h3:=A44 G hG hT 3 (by constructor <;> decide) H
 rw [A45] at h3
 have h2:=A44 G hG hT 2 (by constructor <;> decide) H
 rw [A7V] at h2
 have hP:=AMT G hG kM AVB kH (by decide) H
 rw [A7U] at hP
 refine FN (by kernel_rfl) ?_
 simp -implicitDefEqProofs only [G5,EM,D9,EQ,FT,H6,GN,AO,AA,AZ,BU,BX,jD,jF,↓reduceIte,jC,jQ,jA,enP]
 refine ⟨_,ABA G H,?_⟩
 simp -implicitDefEqProofs only [G5,EM,D9,EQ,GH,KL,H6,GN,AO,AA,AZ,BU,EW,AB,jE,jD,jF,↓reduceIte,jC,jQ,jA,ldH g]
 refine ⟨_,hC,?_⟩
 simp -implicitDefEqProofs only [G5,zH,zL,EM,D9,FU,EQ,JI,KL,BC,A8,AO,AA,AZ,EW,GG,AB,↓reduceIte,jC,jQ,jA]
 refine FN (by kernel_rfl) ?_
 simp -implicitDefEqProofs only [G5,EM,D9,EQ,FT,H6,GN,AO,AA,AZ,BU,BX,jD,jF,↓reduceIte,jC,jQ,jA,enP]
 refine ⟨_,ABA G H,?_⟩
 simp -implicitDefEqProofs only [G5,FK,FH,EM,D9,EQ,GH,AA6,I8,KL,H6,GN,AO,AA,AZ,AU,BU,BH,H9,KY,EC,EW,CB,AB,jE,jD,jF,↓reduceIte,jC,jQ,jA,enP,ldH g,A1T,A1P,A1S]
 refine ⟨_,h3,?_⟩
 simp -implicitDefEqProofs only [G5,zH,zL,EM,D9,FU,EQ,JI,KL,BC,A8,AO,AA,AZ,EW,GG,AB,↓reduceIte,jC,jQ,jA]
 refine FN (by kernel_rfl) ?_
 simp -implicitDefEqProofs only [G5,EM,D9,EQ,FT,H6,GN,AO,AA,AZ,BU,BX,jD,jF,↓reduceIte,jC,jQ,jA,enP]
 refine ⟨_,ABA G H,?_⟩
 simp -implicitDefEqProofs only [G5,FK,FH,EM,D9,EQ,GH,AA6,I8,KL,H6,GN,AO,AA,AZ,AU,BU,BH,H9,KY,EC,EW,CB,AB,jE,jD,jF,↓reduceIte,jC,jQ,jA,enP,ldH g,A1T,A1P,A1S]
 refine ⟨_,h2,?_⟩
 simp -implicitDefEqProofs only [G5,zH,zL,EM,D9,FU,EQ,JI,KL,BC,A8,AO,AA,AZ,EW,GG,AB,↓reduceIte,jC,jQ,jA]
 refine FN (by kernel_rfl) ?_
 have i0:JG 1 H (.sl .any 1 [SC [a,b]]) (.int .i64 0)=some (.fptr 1 [SC [a,b]] 0 0):=rfl
 have d0:DX Tryz.prog H 46 (.fptr 1 [SC [a,b]] 0 0)=some (.sl .any 4 [CY a,CY b]):=XT (row:=SC [a,b]) RQ rfl rfl
 have j0:JG 4 H (.sl .any 4 [CY a,CY b]) (.int .i64 0)=some (.fptr 4 [CY a,CY b] 0 0):=rfl
 have j1:JG 4 H (.sl .any 4 [CY a,CY b]) (.int .i64 1)=some (.fptr 4 [CY a,CY b] 1 0):=rfl
 have m0:DX Tryz.prog H 3 (.fptr 4 [CY a,CY b] 0 0)=some (.int .i64 23):=XT (row:=CY a) ag3 rfl (by rw [II,ha]; rfl)
 have m1:DX Tryz.prog H 3 (.fptr 4 [CY a,CY b] 1 0)=some (.int .i64 4):=XT (row:=CY b) ag3 rfl (by rw [II,hb]; rfl)
 have c2:(((2:Nat):Int) == 2)=true:=rfl
 have c1:(((1:Nat):Int) == 1)=true:=rfl
 simp -implicitDefEqProofs only [G5,EM,D9,EQ,GK,IY,Q9,GH,KA,FT,J7,ATB,EX,EU,JM,H6,GN,CO,AO,AA,AZ,AU,BU,BH,BM,CP,DL,BX,BQ,GU,BN,CG,D6,AB,DR,EP,jD,jF,↓reduceIte,jC,jQ,Nat.add_zero,jG,jA,jB,enP,AJ1,ACI,WP,TW,HY,beq_self_eq_true,List.length_cons,qE,c1,c2,i0,d0,j0,j1,m0,m1]
 refine ⟨_,ABA G H,?_⟩
 simp -implicitDefEqProofs only [G5,EM,D9,GK,IY,Q9,J7,H6,GN,CO,AO,AA,AZ,AU,BU,H9,BQ,AB,jE,jD,jF,↓reduceIte,jC,jQ,jA,enP,ldH g]
 refine ⟨_,hP,?_⟩
 simp -implicitDefEqProofs only [G5,EM,D9,FU,EQ,JI,KA,BJ,A8,CJ,AO,AA,AZ,AU,BM,CP,DL,AB,MK,↓reduceIte,jC,jQ,jG,jA]
 exact ⟨by rw [beq_self_eq_true],hx⟩
end
section
variable (G:Nat→AV)
def xsOf (l:List Ex):Xs:=⟨Cov.nm l,l⟩
theorem ATD (c:List (List Ex)):c.map SC=(c.map xsOf).map AAP:=by rw [List.map_map]; rfl
theorem A0A {ins:Ex→List Rng→Ex} {m:Mo} {x:Hl} (h:cnE ins m x=0):NZ m x=true:=by
 unfold cnE at h
 split at h
 ·assumption
 ·cases h
end
def AEM (c:List (List Ex)) (l:List (List Sg)):Prop:=c.length≤l.length∧∀ t,t < c.length→∀ e∈c[t]?.getD [],okX (l.getD (l.length - c.length+t) []) e=true
theorem AKI : ∀ (C:List (List Ex)) (D:List Ss),D.length=C.length→(ANI (C.map xsOf) D=true↔∀ t,t < C.length→∀ e∈C[t]?.getD [],okX ((D.map Ss.l).getD t []) e=true)
 | [],_,_=>⟨fun _ t h=>absurd h (by simp),fun _=>rfl⟩
 | _ :: _,[],h=>by simp at h
 | c :: C,d :: D,h=>by
   have ih:=AKI C D (by simpa using h)
   show (c.all (okX d.l) && ANI (C.map xsOf) D)=true↔_
   rw [jU,ih,zF]
   constructor
   ·rintro ⟨h1,h2⟩ t ht e he
    cases t with
    | zero=>exact h1 e he
    | succ t=>exact h2 t (by simpa using ht) e he
   ·intro hh
    exact ⟨fun e he=>hh 0 (by simp) e he,fun t ht e he=>hh (t+1) (by simpa using ht) e he⟩
theorem AKH (C:List (List Ex)) (L:List Ss):ACT (C.map xsOf) L=true↔AEM C (L.map Ss.l):=by
 unfold ACT AEM
 rw [jI,jI]
 by_cases hc:L.length < C.length
 ·rw [if_pos hc]
  exact ⟨fun h=>(by cases h),fun h=>(by omega)⟩
 ·rw [if_neg hc,AKI C _ (by rw [List.length_drop]; omega)]
  have : ∀ t,((L.drop (L.length - C.length)).map Ss.l).getD t []=(L.map Ss.l).getD (L.length - C.length+t) []:=fun t=>by
   rw [List.map_drop,jZ,qR,jZ]
  constructor
  ·intro h
   exact ⟨by omega,fun t ht e he=>by rw [← this]; exact h t ht e he⟩
  ·rintro ⟨_,h⟩ t ht e he
   rw [this]; exact h t ht e he
theorem O3 (cs:List (List (List Ex))):(JZ cs).length=MZ cs:=by unfold JZ; simp
theorem ADZ (cs:List (List (List Ex))) (t:Nat) (h:t < (JZ cs).length):(JZ cs)[t]?.getD []=cs.flatMap (rowC (MZ cs) t):=by
 rw [O3] at h
 unfold JZ
 rw [jX,List.getElem?_range h]; rfl
theorem ALZ {cs:List (List (List Ex))} {c:List (List Ex)} (hc:c∈cs) {t:Nat} (ht:t < c.length) {e:Ex} (he:e∈c[t]?.getD []):t+(MZ cs - c.length) < (JZ cs).length∧e∈(JZ cs)[t+(MZ cs - c.length)]?.getD []:=by
 have hl:=XV hc
 have hlt:t+(MZ cs - c.length) < (JZ cs).length:=by rw [O3]; omega
 refine ⟨hlt,?_⟩
 rw [ADZ cs _ hlt,List.mem_flatMap]
 refine ⟨c,hc,?_⟩
 unfold rowC
 rw [if_pos (by omega),show t+(MZ cs - c.length) - (MZ cs - c.length)=t by omega]
 exact he
theorem ANH (cs:List (List (List Ex))) (l:List (List Sg)):AEM (JZ cs) l↔∀ c∈cs,AEM c l:=by
 constructor
 ·rintro ⟨h1,h2⟩ c hc
  have hl:=XV hc
  rw [O3] at h1
  refine ⟨by omega,fun t ht e he => ?_⟩
  obtain ⟨g1,g2⟩:=ALZ hc ht he
  have:=h2 _ g1 e g2
  rw [O3] at this
  rw [show l.length - c.length+t=l.length - MZ cs+(t+(MZ cs - c.length)) by omega]
  exact this
 ·intro h
  have hn:MZ cs≤l.length:=TI cs 0 _ (Nat.zero_le _) fun c hc=>(h c hc).1
  refine ⟨by rw [O3]; exact hn,fun t ht e he => ?_⟩
  rw [ADZ cs t ht,List.mem_flatMap] at he
  obtain ⟨c,hc,he⟩:=he
  have hl:=XV hc
  rw [O3] at ht ⊢
  unfold rowC at he
  split at he
  ·rename_i q
   rcases zK (t - (MZ cs - c.length)) c.length with g | g
   ·have:=(h c hc).2 _ g e he
    rw [show l.length - MZ cs+t=l.length - c.length+(t - (MZ cs - c.length)) by omega]
    exact this
   ·rw [List.getElem?_eq_none g] at he; cases he
  ·cases he
theorem AUQ {y:Ex} {c:List (List Ex)} {t:Nat} (h':t < c.length):(AUR (some y) c)[t]?.getD []=if t=c.length - 1 then c[t]?.getD [] ++ [notE y] else c[t]?.getD []:=by
 show (c.set (c.length - 1) (c[c.length - 1]?.getD [] ++ [notE y]))[t]?.getD []=_
 rw [List.getElem?_set]
 split
 ·rename_i q
  subst q
  rw [if_pos h',if_pos rfl]; rfl
 ·rename_i q
  rw [if_neg (fun e=>q e.symm)]
theorem mem_row {c:List (List Ex)} {t:Nat} {e:Ex} (h:e∈c[t]?.getD []) : ∃ r∈c,e∈r:=by
 cases hc:c[t]? with
 | none=>rw [hc] at h; cases h
 | some r=>rw [hc] at h; exact ⟨r,List.mem_of_getElem? hc,h⟩
def AZO (p:Pt) (b:Bin) (v:Nat→Int) (K:Nat):Prop:=(F8 b).length≤K∧(∀ t (h:t < (F8 b).length),inside (F8 b)[t].l (v (K - (F8 b).length+t))=true)∧inside (J6 p.bins) (v (K - 1))=false
theorem ASE {p:Pt} {b:Bin} (vp:VP p) (vb:VB b) {l:List (List Sg)} (he : ∀ k,k < l.length→(evE (l.getD k []) p.ex).2=0) (hx : ∀ r∈QK FV p b,∀ e∈r,exE e=0) :
  AEM (QK FV p b) l↔AZO p b (fun k=>((evE (l.getD k []) p.ex).1:Nat)) l.length:=by
 have hcl:=ALA FV p b
 have hne:(F8 b).length≠0:=fun q=>vb.ne (wQ q)
 have hget : ∀ t (ht:t < (F8 b).length),(QK FV p b)[t]?.getD []=if t=(F8 b).length - 1∧J6 p.bins≠[] then [FV p.ex (F8 b)[t].l,notE (FV p.ex (J6 p.bins))] else [FV p.ex (F8 b)[t].l]:=fun t ht=>by
  have h0:((F8 b).map fun s => [FV p.ex s.l])[t]?.getD [] = [FV p.ex (F8 b)[t].l]:=by rw [jX,jL ht]; rfl
  unfold QK badO
  by_cases hb:J6 p.bins = []
  ·rw [if_pos hb,if_neg (fun q=>q.2 hb)]
   exact h0
  ·rw [if_neg hb,AUQ (by rw [jI]; exact ht),jI,h0]
   by_cases ht3:t=(F8 b).length - 1
   ·rw [if_pos ht3,if_pos ⟨ht3,hb⟩]; rfl
   ·rw [if_neg ht3,if_neg (fun q=>ht3 q.1)]
 have hex : ∀ {t:Nat} {e:Ex},e∈(QK FV p b)[t]?.getD []→exE e=0:=fun h=>by
  obtain ⟨r,hr,hm⟩:=mem_row h
  exact hx r hr _ hm
 unfold AEM AZO
 rw [hcl]
 refine and_congr_right fun hle => ?_
 constructor
 ·intro h
  constructor
  ·intro t ht
   have hm:FV p.ex (F8 b)[t].l∈(QK FV p b)[t]?.getD []:=by rw [hget t ht]; split <;> simp
   have:=h t ht _ hm
   obtain ⟨e1,_,e3⟩:=vb.each _ (jO ht)
   rw [APL e3 e1 (he _ (by omega)) (hex hm)] at this
   exact this
  ·by_cases hb:J6 p.bins = []
   ·rw [hb]; rfl
   ·have ht:(F8 b).length - 1 < (F8 b).length:=by omega
    have hm:notE (FV p.ex (J6 p.bins))∈(QK FV p b)[(F8 b).length - 1]?.getD []:=by rw [hget _ ht,if_pos ⟨rfl,hb⟩]; simp
    have:=h _ ht _ hm
    rw [APK vp.badOk hb (he _ (by omega)) (hex hm)] at this
    rw [show l.length - (F8 b).length+((F8 b).length - 1)=l.length - 1 by omega] at this
    simpa using this
 ·rintro ⟨h1,h2⟩ t ht e hm
  have hxe:=hex hm
  rw [hget t ht] at hm
  have hcase:e=FV p.ex (F8 b)[t].l∨(t=(F8 b).length - 1∧J6 p.bins≠[]∧e=notE (FV p.ex (J6 p.bins))):=by
   split at hm
   ·rename_i q
    simp at hm
    rcases hm with rfl | rfl
    ·exact .inl rfl
    ·exact .inr ⟨q.1,q.2,rfl⟩
   ·simp at hm
    exact .inl hm
  rcases hcase with rfl | ⟨rfl,hb,rfl⟩
  ·obtain ⟨e1,_,e3⟩:=vb.each _ (jO ht)
   rw [APL e3 e1 (he _ (by omega)) hxe]
   exact h1 t ht
  ·rw [APK vp.badOk hb (he _ (by omega)) hxe,show l.length - (F8 b).length+((F8 b).length - 1)=l.length - 1 by omega,h2]
   rfl
theorem AFI (bins:List Bin) (last:List Int) (v kind:Int) : ∀ (n j:Nat),j∈MB bins last v kind n↔j < n∧(bins[j]?.map (hK last v kind)).getD false=true
 | 0,j=>by simp [MB]
 | n+1,j=>by
   simp only [MB,List.mem_append,AFI bins last v kind n j]
   constructor
   ·rintro (⟨h1,h2⟩ | h)
    ·exact ⟨by omega,h2⟩
    ·split at h
     ·rename_i q
      rw [wG.1 h]
      exact ⟨by omega,q⟩
     ·cases h
   ·rintro ⟨h1,h2⟩
    rcases zK j n with g | g
    ·exact .inl ⟨g,h2⟩
    ·obtain rfl:j=n:=by omega
     right
     rw [if_pos h2]
     simp
theorem ptE_ok {p:Pt} {last:List Int} {s:List Sg} (h:(ptE p last s).err=0):(evE s p.ex).2=0∧(ptE p last s).next=nextL last (evE s p.ex).1 ∧
  ∀ j,j∈(ptE p last s).hit↔(inK p.bins 2 (evE s p.ex).1=false∧inK p.bins 1 (evE s p.ex).1=false)∧j∈X5 p last (evE s p.ex).1 0:=by
 unfold ptE at h ⊢
 split at h
 ·cases h
 split at h
 ·rename_i q; exact absurd h q
 rename_i q1 q2
 rw [if_neg q1,if_neg q2]
 have he:(evE s p.ex).2=0:=by simpa using q2
 split
 ·rename_i q
  exact ⟨he,rfl,fun j=>⟨fun hh=>(by cases hh),fun ⟨⟨a,_⟩,_⟩=>(by rw [q] at a; cases a)⟩⟩
 ·rename_i r1
  split
  ·rename_i q
   exact ⟨he,rfl,fun j=>⟨fun hh=>(by cases hh),fun ⟨⟨_,a⟩,_⟩=>(by rw [q] at a; cases a)⟩⟩
  ·rename_i r2
   exact ⟨he,rfl,fun j=>⟨fun hh=>⟨⟨by simpa using r1,by simpa using r2⟩,hh⟩,fun hh=>hh.2⟩⟩
theorem AQL : ∀ (l:List Bin) (v:Int),inside (J6 l) v=l.any fun b=>(b.kind != 0) && inside b.ranges.l v
 | [],_=>rfl
 | b :: l,v=>by
   rw [J6,KT,List.any_cons,AQL l v]
   congr 1
   by_cases h:b.kind=0
   ·rw [if_neg (by simpa using h),h]; rfl
   ·rw [if_pos h]
    have:(b.kind != 0)=true:=by simpa using h
    rw [this,qM]
theorem A0O {p:Pt} (vp:VP p) (v:Int):(inK p.bins 2 v=false∧inK p.bins 1 v=false)↔inside (J6 p.bins) v=false:=by
 rw [AQL]
 unfold inK
 simp only [List.any_eq_false]
 constructor
 ·rintro ⟨h2,h1⟩ b hb q
  rw [jU] at q
  have k0:=(vp.bins b hb).k0
  have k2:=(vp.bins b hb).k2
  have hn:b.kind≠0:=by simpa using q.1
  rcases (show b.kind=1∨b.kind=2 by omega) with e | e
  ·exact h1 b hb (by rw [e,q.2]; rfl)
  ·exact h2 b hb (by rw [e,q.2]; rfl)
 ·intro h
  refine ⟨fun b hb q=>h b hb ?_,fun b hb q=>h b hb ?_⟩
  ·rw [jU] at q ⊢
   have:b.kind=2:=by simpa using q.1
   exact ⟨by rw [this]; rfl,q.2⟩
  ·rw [jU] at q ⊢
   have:b.kind=1:=by simpa using q.1
   exact ⟨by rw [this]; rfl,q.2⟩
def VW (v:Nat→Int) (k:Nat):List Int:=((List.range k).map v).drop (k - 7)
theorem ZA (v:Nat→Int) (k:Nat):(VW v k).length=k - (k - 7):=by unfold VW; simp
theorem ARS (v:Nat→Int) {k i:Nat} (h:i < k - (k - 7)):(VW v k)[i]? = some (v (k - 7+i)):=by
 unfold VW
 rw [qR,jX,List.getElem?_range (by omega)]; rfl
theorem AM7 (v:Nat→Int) (k:Nat) (n:Nat) (hn:v k=(n:Int)):nextL (VW v k) n=VW v (k+1):=by
 unfold nextL
 rw [ZA]
 unfold VW
 rw [List.range_succ,List.map_append,← List.drop_append_of_le_length (by simp),List.drop_drop]
 congr 1
 ·omega
 ·rw [List.map_singleton,hn]
theorem AR9 {b:Bin} (vb:VB b) (hv:IZ b=0) (v:Nat→Int) (k:Nat):hit b (VW v k) (v k)=true↔(F8 b).length≤k+1∧∀ t (h:t < (F8 b).length),inside (F8 b)[t].l (v (k+1 - (F8 b).length+t))=true:=by
 have h8:=vb.few
 have hne:(F8 b).length≠0:=fun q=>vb.ne (wQ q)
 unfold hit AKF
 rw [WE,ZA,decide_eq_true hv,qM,jU,decide_eq_true_iff,zF]
 have hvl : ∀ t,t < (F8 b).length→(F8 b).length≤k+1→XD (VW v k) (F8 b).length (v k) t=v (k+1 - (F8 b).length+t):=fun t ht hle=>by
  unfold XD
  rw [ZA]
  split
  ·rw [ARS v (by omega)]
   show v _=v _
   congr 1
   omega
  ·congr 1
   omega
 have hsa : ∀ t (h:t < (F8 b).length),setAt b t=(F8 b)[t].l:=fun t h=>by
  unfold setAt
  rw [WE,jL h]; rfl
 constructor
 ·rintro ⟨h1,h2⟩
  refine ⟨by omega,fun t ht => ?_⟩
  have:=h2 t (by simpa using ht)
  rw [hsa t ht,hvl t ht (by omega)] at this
  exact this
 ·rintro ⟨h1,h2⟩
  refine ⟨by omega,fun t ht => ?_⟩
  have ht':t < (F8 b).length:=by simpa using ht
  rw [hsa t ht',hvl t ht' h1]
  exact h2 t ht'
theorem AOC {m:Mo} (h:IA m=0) : ∀ p∈m.pts,∀ b∈p.bins,IZ b=0:=by
 unfold IA at h
 split at h
 ·cases h
 split at h
 ·rename_i q; exact absurd h q
 rename_i q
 intro p hp b hb
 have h:=OH _ (by simpa using q) p hp
 unfold I4 at h
 split at h
 ·cases h
 split at h
 ·rename_i q; exact absurd h q
 split at h
 ·cases h
 split at h
 ·cases h
 split at h
 ·rename_i q; exact absurd h q
 rename_i q2
 exact OH _ (by simpa using q2) b hb
section
variable {m:Mo} {l:List (List Sg)} (R:RunOk m l)
include R
theorem AYF {k i:Nat} (hk:k < l.length) (hi:i < m.pts.length):(evE (l.getD k []) m.pts[i].ex).2=0:=by
 obtain ⟨h1,h2,h3⟩:=R.at' hk hi
 have he:=R.err hk h1
 rw [h3] at he
 have:=(ptE_ok he).1
 rw [jZ,jL hk]
 exact this
theorem AIY {i:Nat} (hi:i < m.pts.length) : ∀ k,k≤l.length→(stK m l k).ls.getD i []=VW (fun k=>((evE (l.getD k []) m.pts[i].ex).1:Nat)) k
 | 0,_=>by
   show (List.replicate m.pts.length []).getD i []=_
   rw [jZ,List.getElem?_replicate,if_pos hi]; rfl
 | k+1,hk=>by
   have ih:=AIY hi k (by omega)
   obtain ⟨h1,h2,h3⟩:=R.at' (show k < l.length by omega) hi
   have he:=R.err (show k < l.length by omega) h1
   rw [R.last (by omega) hi,h3]
   rw [h3] at he
   rw [(ptE_ok he).2.1]
   rw [jZ,jL h2] at ih
   rw [show (stK m l k).ls[i]=_ from ih]
   refine AM7 _ k _ ?_
   show (((evE (l.getD k []) m.pts[i].ex).1:Nat):Int)=_
   rw [jZ,jL (show k < l.length by omega)]; rfl
theorem AQZ {k i j:Nat} (hk:k < l.length) (hi:i < m.pts.length) (hj:j < m.pts[i].bins.length) (h0:m.pts[i].bins[j].kind=0) :
  j∈((rsK m l k).map PtR.hit).getD i []↔AZO m.pts[i] m.pts[i].bins[j] (fun k=>((evE (l.getD k []) m.pts[i].ex).1:Nat)) (k+1):=by
 obtain ⟨h1,h2,h3⟩:=R.at' hk hi
 have he:=R.err hk h1
 have vp:=ABK R.me _ (jO hi)
 have vb:=vp.bins _ (jO hj)
 have hl:=AIY R hi k (by omega)
 rw [jZ,jL h2] at hl
 have hl':(stK m l k).ls[i]=_:=hl
 rw [jZ,jX,jL h1]
 show j∈(rsK m l k)[i].hit↔_
 rw [h3] at he ⊢
 rw [(ptE_ok he).2.2,A0O vp]
 unfold X5
 rw [AFI,jL hj]
 show inside _ _=false∧j < _∧hK _ _ 0 _=true↔_
 unfold hK
 rw [h0,if_pos (show ((0:Int) == 0)=true from rfl)]
 have hv:((evE l[k] m.pts[i].ex).1:Int)=(fun k=>((evE (l.getD k []) m.pts[i].ex).1:Int)) k:=by
  show _=((evE (l.getD k []) m.pts[i].ex).1:Int)
  rw [jZ,jL hk]; rfl
 have hva:IZ m.pts[i].bins[j]=0:=AOC R.me _ (jO hi) _ (jO hj)
 rw [hl',hv,show ((0:Int) == 0)=true from rfl,qM,AR9 vb hva]
 unfold AZO
 constructor
 ·rintro ⟨a,_,b,c⟩
  exact ⟨b,c,a⟩
 ·rintro ⟨b,c,a⟩
  exact ⟨a,hj,b,c⟩
end
theorem TP (P:List (List Int)) (i j:Nat):cellAt (N9 P) i j=(P.getD i []).getD j 0:=by
 unfold cellAt N9
 rw [jX,jZ,jZ]
 cases P[i]? with
 | none=>rfl
 | some x =>
   show (match x[j]? with | some z=>z | none=>0)=_
   show _=(x[j]?).getD 0
   cases x[j]? <;> rfl
theorem AT0 {n:Int} (h:0≤n):0 < rz n:=by unfold rz; omega
theorem AO5 : ∀ {ns:List Nat} {l:List Int} {z:Nat},J3 ns l=true→(∀ n∈ns,1≤n)→(z+1) * JO ns≤4611686018427387904→∀ r:Nat,VL ns l (z:Int)=(r:Int)→(tupF ns r).1.map (fun n:Nat=>(n:Int))=l∧(tupF ns r).2=z
 | [],[],z,_,_,_,r,hr=>by
   have:r=z:=by have:(z:Int)=(r:Int):=hr; omega
   subst this
   exact ⟨rfl,rfl⟩
 | [],_ :: _,_,h,_,_,_,_=>by simp [J3] at h
 | _ :: _,[],_,h,_,_,_,_=>by simp [J3] at h
 | n :: ns,x :: xs,z,h,h1,hb,r,hr=>by
   simp only [J3,jU,decide_eq_true_eq] at h
   obtain ⟨⟨x0,x1⟩,hin⟩:=h
   have hP:=Y5 (ns:=ns) fun k hk=>h1 k (qW _ hk)
   rw [WI] at hb
   obtain ⟨y,rfl⟩ : ∃ y:Nat,x=(y:Int):=⟨x.toNat,by omega⟩
   have hy:y < n:=by omega
   generalize hp:JO ns=P at hP hb
   have e1:(z+1) * (n * P)=(z * n+n) * P:=by rw [← Nat.mul_assoc,Nat.add_mul,Nat.one_mul]
   have e2:(z * n+n)≤(z * n+n) * P:=Nat.le_mul_of_pos_right _ hP
   have e3:(z * n+y+1) * P≤(z * n+n) * P:=Nat.mul_le_mul_right P (by omega)
   have w1:IntKind.i64.wrap ((z:Int) * (n:Int))=((z * n:Nat):Int):=by rw [← Int.natCast_mul]; exact KC (by omega)
   have w2:IntKind.i64.wrap (((z * n:Nat):Int)+(y:Int))=((z * n+y:Nat):Int):=by rw [← Int.natCast_add]; exact KC (by omega)
   have hr':VL ns xs ((z * n+y:Nat):Int)=(r:Int):=by
    have:VL ns xs (IntKind.i64.wrap (IntKind.i64.wrap ((z:Int) * (n:Int))+(y:Int)))=(r:Int):=hr
    rw [w1,w2] at this
    exact this
   obtain ⟨i1,i2⟩:=AO5 hin (fun k hk=>h1 k (qW _ hk)) (by rw [hp]; omega) r hr'
   have hm:(z * n+y) % n=y:=by rw [Nat.add_comm,Nat.mul_comm,Nat.add_mul_mod_self_left,Nat.mod_eq_of_lt hy]
   have hd:(z * n+y) / n=z:=by rw [Nat.add_comm,Nat.mul_comm,Nat.add_mul_div_left _ _ (by omega),Nat.div_eq_of_lt hy,jG]
   refine ⟨?_,?_⟩
   ·show (((tupF ns r).2 % n) :: (tupF ns r).1).map _=_
    rw [jE,i1,i2,hm]
   ·show (tupF ns r).2 / n=z
    rw [i2,hd]
theorem AZM {m:Mo} (hg:Cov.Good m) {i:Nat} (hi:i < m.crs.length) {l:List Int} (hin:J3 (szs m m.crs[i].pts) l=true) : ∃ k:Nat,VL (szs m m.crs[i].pts) l 0=(k:Int)∧k < JO (szs m m.crs[i].pts)∧RF (szs m m.crs[i].pts) k=l:=by
 obtain ⟨k,h1,h2⟩:=AKC hg hi hin
 have hcg:=hg.crs _ (jO hi)
 have hs:=hg.full.szs hcg.here
 have hfour:=hcg.four
 have hp:JO (szs m m.crs[i].pts)≤64 ^ 4:=AB3 _ 4 (fun n hn=>(hs n hn).2) (by rw [QR]; exact hfour)
 exact ⟨k,h1,h2,(AO5 (z:=0) hin (fun n hn=>(hs n hn).1) (by omega) k h1).1⟩
theorem ALY (hits:List (List Nat)) : ∀ L:List (Nat × Nat),allB (L.map fun q=>((q.1:Nat):Int)) (L.map fun q=>((q.2:Nat):Int)) hits=L.all fun q=>decide (q.2∈hits.getD q.1 [])
 | []=>rfl
 | q :: L=>by
   show (Rk.hasB ((hits.getD ((q.1:Nat):Int).toNat []).map fun n:Nat=>(n:Int)) q.2 && allB (L.map fun q=>((q.1:Nat):Int)) (L.map fun q=>((q.2:Nat):Int)) hits)=_
   rw [ALY hits L,List.all_cons,qG]
   congr 1
   rw [Bool.eq_iff_iff,decide_eq_true_iff]
   unfold Rk.hasB
   rw [List.any_eq_true]
   constructor
   ·rintro ⟨z,hz,e⟩
    obtain ⟨n,hn,rfl⟩:=zJ.1 hz
    have:n=q.2:=by have:(n:Int)=(q.2:Int):=by simpa using e
                   omega
    rw [← this]; exact hn
   ·intro h
    exact ⟨(q.2:Int),zJ.2 ⟨q.2,h,rfl⟩,by simp⟩
section
variable {m:Mo} {l:List (List Sg)} (R:RunOk m l)
include R
theorem AX5 {k i j:Nat} (hk:k < l.length) (hi:i < m.pts.length) (_hj:j < m.pts[i].bins.length):(0 < ((stK m l (k+1)).P.getD i []).getD j 0)↔(0 < ((stK m l k).P.getD i []).getD j 0∨j∈((rsK m l k).map PtR.hit).getD i []):=by
 obtain ⟨h1,h2,h3⟩:=R.at' hk hi
 have hl:=R.rowLen (show k≤l.length by omega) hi
 have hw:Wn ((stK m l k).P.getD i []):=by
  have h2:=R.pl k (by omega)
  rw [jZ,jL (by omega)]
  exact (R.fit k (by omega)).ok.sh.wp _ (jO (by omega))
 rw [R.row hk hi,VA j _ _ (by rw [h3]; exact Y4 _ _ _) (fun x hx=>by rw [hl]; rw [h3] at hx; exact AGK _ _ _ x hx)]
 rw [jZ (l:=(rsK m l k).map PtR.hit),jX,jL h1]
 show _↔_∨j∈(rsK m l k)[i].hit
 split
 ·rename_i q
  exact ⟨fun _ => .inr q,fun _=>AT0 (hw.getD j).1⟩
 ·rename_i q
  exact ⟨fun h => .inl h,fun h=>h.elim id fun h=>absurd h q⟩
theorem AX6 {k i t:Nat} (hk:k < l.length) (hi:i < m.crs.length) (ht:t < JO (szs m m.crs[i].pts)):(0 < ((stK m l (k+1)).C.getD i []).getD t 0)↔(0 < ((stK m l k).C.getD i []).getD t 0∨crK m m.crs[i] ((rsK m l k).map PtR.hit) t=true):=by
 have hl:=R.rowCLen (show k≤l.length by omega) hi
 have hw:Wn ((stK m l k).C.getD i []):=by
  have h2:=R.cl k (by omega)
  rw [jZ,jL (by omega)]
  exact (R.fit k (by omega)).ok.sh.wc _ (jO (by omega))
 rw [R.rowC hk hi]
 have hlt:t < ((stK m l k).C.getD i []).length:=by omega
 generalize (stK m l k).C.getD i []=row at hlt hw hl ⊢
 have e1:(Xe.rowC m m.crs[i] ((rsK m l k).map PtR.hit) row).getD t 0=(Xe.rowC m m.crs[i] ((rsK m l k).map PtR.hit) row)[t]'(by rw [Xe.rowC_len]; exact hlt):=by
  rw [jZ,jL (by rw [Xe.rowC_len]; exact hlt)]; rfl
 have e2:row.getD t 0=row[t]:=by rw [jZ,jL hlt]; rfl
 rw [e1,e2]
 rw [Xe.rowC_get _ _ _ _ t hlt]
 split
 ·rename_i q
  exact ⟨fun _ => .inr q,fun _=>AT0 (hw _ (jO hlt)).1⟩
 ·rename_i q
  exact ⟨fun h => .inl h,fun h=>h.elim id fun h=>absurd h q⟩
theorem AE2 {x:Hl} (hv:NZ m x=true) {k:Nat} (hk:k < l.length):(0 < SI m x (cvS (stK m l (k+1))))↔(0 < SI m x (cvS (stK m l k))∨∀ q∈KQ m x,q.2∈((rsK m l k).map PtR.hit).getD q.1 []):=by
 have hL:=WH hv
 unfold SI
 cases hc:x.cross
 ·obtain ⟨i,hi,j,hj,hz,hb,hkd,hg⟩:=PY hv hc
  rw [if_neg (by decide),if_neg (by decide),hz,hb]
  show (0 < cellAt (N9 _) (i:Int).toNat (j:Int).toNat)↔(0 < cellAt (N9 _) (i:Int).toNat (j:Int).toNat∨_)
  rw [TP,TP,qG,qG,AX5 R hk hi hj]
  have hps:KQ m x = [(i,j)]:=by
   unfold KQ UW
   rw [if_neg (by rw [hc]; decide),hz,hb]
   simp
  rw [hps]
  simp
 ·obtain ⟨i,hi,hz,hin,hh,hg⟩:=PZ hv hc
  obtain ⟨t,t1,t2,t3⟩:=AZM hg hi hin
  have hix:(ixV (szs m m.crs[i].pts) x.bins).toNat=t:=by
   unfold ixV
   rw [if_pos hin,t1,qG]
  rw [if_pos rfl,if_pos rfl,hz,O8 hi]
  show (0 < cellAt (N9 _) (i:Int).toNat (ixV _ _).toNat)↔(0 < cellAt (N9 _) (i:Int).toNat (ixV _ _).toNat∨_)
  rw [hix,TP,TP,qG,AX6 R hk hi t2]
  refine or_congr Iff.rfl ?_
  unfold crK
  have hp:=hL.pts
  unfold UW at hp
  rw [if_pos hc,hz,O8 hi] at hp
  have hp':m.crs[i].pts=(KQ m x).map fun q=>((q.1:Nat):Int):=hp
  rw [t3,hh,qM]
  have hq:allB m.crs[i].pts x.bins ((rsK m l k).map PtR.hit)=allB ((KQ m x).map fun q=>((q.1:Nat):Int)) ((KQ m x).map fun q=>((q.2:Nat):Int)) ((rsK m l k).map PtR.hit):=by
   rw [← hp',← hL.bins]
  rw [hq,ALY,zF]
  simp
end
theorem ARD {m:Mo} {x:Hl} (hv:NZ m x=true) : ∀ q∈KQ m x,∃ (h1:q.1 < m.pts.length) (h2:q.2 < m.pts[q.1].bins.length),m.pts[q.1].bins[q.2].kind=0:=by
 have hL:=WH hv
 cases hc:x.cross
 ·obtain ⟨i,hi,j,hj,hz,hb,hkd,hg⟩:=PY hv hc
  have hps:KQ m x = [(i,j)]:=by
   unfold KQ UW
   rw [if_neg (by rw [hc]; decide),hz,hb]
   simp
  rw [hps]
  intro q hq
  rw [wG.1 hq]
  exact ⟨hi,hj,hkd⟩
 ·obtain ⟨i,hi,hz,hin,hh,hg⟩:=PZ hv hc
  have hp:=hL.pts
  unfold UW at hp
  rw [if_pos hc,hz,O8 hi] at hp
  have hp':m.crs[i].pts=(KQ m x).map fun q=>((q.1:Nat):Int):=hp
  have hk:MQ m ((KQ m x).map fun q=>((q.1:Nat):Int)) ((KQ m x).map fun q=>((q.2:Nat):Int))=true:=by
   rw [← hp',← hL.bins]
   unfold VM at hh
   rw [jU] at hh
   exact hh.1
  have gen : ∀ L:List (Nat × Nat),MQ m (L.map fun q=>((q.1:Nat):Int)) (L.map fun q=>((q.2:Nat):Int))=true→∀ q∈L,TJ m q.1 q.2=0:=by
   intro L
   induction L with
   | nil=>intro _ q hq; cases hq
   | cons y L ih =>
     intro h q hq
     have h':((TJ m y.1 y.2 == 0) && MQ m (L.map fun q=>((q.1:Nat):Int)) (L.map fun q=>((q.2:Nat):Int)))=true:=h
     rw [jU] at h'
     rcases qI.1 hq with rfl | hq
     ·simpa using h'.1
     ·exact ih h'.2 q hq
  intro q hq
  obtain ⟨a,b⟩:=hL.ok q hq
  refine ⟨a,b,?_⟩
  have:=gen _ hk q hq
  unfold TJ at this
  have hbe:JQ m (q.1:Int)=m.pts[q.1].bins:=by unfold JQ; rw [qG,jL a]
  rw [hbe,qG,jL b] at this
  exact this
theorem AFY {m:Mo} {x:Hl} {l:List (List Sg)} (R:RunOk m l) (hv:NZ m x=true) (he:cnE FV m x=0):AEM (cnL FV m x) l↔∃ k,k+1=l.length∧∀ q∈KQ m x,q.2∈((rsK m l k).map PtR.hit).getD q.1 []:=by
 have hL:=WH hv
 have hE : ∀ e∈(cnL FV m x).flatten,exE e=0:=by
  unfold cnE at he
  rw [if_pos hv] at he
  split at he
  ·rename_i q
   rw [zF] at q
   intro e hm
   simpa using q e hm
  ·cases he
 have hcl:cnL FV m x=JZ ((KQ m x).map (cdQ FV m)):=rfl
 rw [hcl] at hE
 rw [hcl,ANH]
 have hone : ∀ q∈KQ m x,∀ k,k+1=l.length→(AEM (cdQ FV m q) l↔q.2∈((rsK m l k).map PtR.hit).getD q.1 []):=by
  intro q hq k hk
  obtain ⟨a,b,c⟩:=ARD hv q hq
  have vp:=ABK R.me _ (jO a)
  have vb:=vp.bins _ (jO b)
  rw [AQZ R (by omega) a b c,hk]
  have hcd:=AHN FV a b
  rw [hcd]
  refine ASE vp vb (fun k hk=>AYF R hk a) fun r hr e hm => ?_
  rw [← hcd] at hr
  obtain ⟨t,ht,rfl⟩:=List.getElem_of_mem hr
  obtain ⟨g1,g2⟩:=ALZ (zJ.2 ⟨q,hq,rfl⟩) ht (e:=e) (by rw [jL ht]; exact hm)
  obtain ⟨r',hr',hm'⟩:=mem_row g2
  exact hE e (List.mem_flatten.2 ⟨r',hr',hm'⟩)
 constructor
 ·intro h
  have hn1:=hL.n1
  obtain ⟨q,hq⟩:=List.exists_mem_of_length_pos (show 0 < (KQ m x).length by omega)
  obtain ⟨a,b⟩:=hL.ok q hq
  have h1:=(h _ (zJ.2 ⟨q,hq,rfl⟩)).1
  have h2:=(AHM (ins:=FV) R.me a b).1
  refine ⟨l.length - 1,by omega,fun q hq=>(hone q hq _ (by omega)).1 (h _ (zJ.2 ⟨q,hq,rfl⟩))⟩
 ·rintro ⟨k,hk,h⟩ c hc
  obtain ⟨q,hq,rfl⟩:=zJ.1 hc
  exact (hone q hq k hk).2 (h q hq)
theorem AMW {m:Mo} {x:Hl} {l:List (List Sg)} (hr:N7 m l=0) (hv:NZ m x=true) (he:cnE FV m x=0) (hf:AEM (cnL FV m x) l):0 < SI m x (OX m l):=by
 have R:=ABT hr
 obtain ⟨k,hk,h⟩:=(AFY R hv he).1 hf
 rw [R.val,← hk,AE2 R hv (by omega)]
 exact .inr h
theorem AJH {m:Mo} {x:Hl} {l:List (List Sg)} (hl:l≠[]) (hr:N7 m l=0) (hr2:N7 m l.dropLast=0) (hv:NZ m x=true) (he:cnE FV m x=0) (h1:0 < SI m x (OX m l)) (h2 : ¬ 0 < SI m x (OX m l.dropLast)):AEM (cnL FV m x) l:=by
 have R:=ABT hr
 have R2:=ABT hr2
 have hlen:0 < l.length:=List.length_pos_iff.2 hl
 obtain ⟨k,hk⟩ : ∃ k,k+1=l.length:=⟨l.length - 1,by omega⟩
 have hst:stK m l.dropLast l.dropLast.length=stK m l k:=by
  unfold stK
  rw [List.take_length,List.dropLast_eq_take,show l.length - 1=k by omega]
 rw [R2.val,hst] at h2
 rw [R.val,← hk,AE2 R hv (by omega)] at h1
 exact (AFY R hv he).2 ⟨k,hk,h1.resolve_left h2⟩
theorem AG2 {m:Mo} {x:Hl} {l:List (List Sg)} (h:(htV m x (OX m l) (N7 m l)).2=0):NZ m x=true∧N7 m l=0∧(htV m x (OX m l) (N7 m l)).1=decide (0 < SI m x (OX m l)):=by
 unfold htV at h ⊢
 split at h
 ·rename_i hv
  rw [if_pos hv]
  split at h
  ·rename_i he
   rw [if_pos he]
   exact ⟨hv,he,rfl⟩
  ·rename_i he; exact absurd h he
 ·cases h
theorem A5G {m:Mo} {x:Hl} {c:Cvr} {e:Int} (h:(htV m x c e).2≠0):(htV m x c e).1=false:=by
 unfold htV at h ⊢
 split at h
 ·rename_i hv
  rw [if_pos hv]
  split at h
  ·exact absurd rfl h
  ·rename_i he; rw [if_neg he]
 ·rename_i hv; rw [if_neg hv]
section
variable (G:Nat→AV)
theorem AVQ {m:Mo} (hm:MoOk m) {x:Hl} (he:cnE FV m x=0) (s:SM) (l:List Ss) (h:Hp) (hl:l.length≤1048576) (hs : ∀ x∈l,x.l.length≤1048576∧∀ s∈x.l,VO s) :
  PCall (En G) 21 [.sl .any 1 ((cnL FV m x).map SC),.sl s 1 (l.map OV)] h (.bool (ACT ((cnL FV m x).map xsOf) l)):=by
 rw [ATD]
 obtain ⟨a1,_,a3⟩:=AWH (ins:=FV) hm (A0A he) fun hw hl=>AH0 hw hl
 refine AKG G _ _ l s h (by rw [jI]; omega) (fun y hy => ?_) hl hs
 obtain ⟨r,hr,rfl⟩:=zJ.1 hy
 obtain ⟨b1,b2⟩:=a3 r hr
 exact ⟨by show r.length≤_; omega,fun e he=>b2 e he⟩
set_option maxHeartbeats 2000000 in
theorem A42 (hG:GOk G) (hT:Q8 G) (m:Mo) (hm:MoOk m) (x:Hl) (hn:x.bins.length≤1048576) (l:List Ss) (s:SM) (h:Hp) (hl:l.length≤1048576) (he : ∀ x∈l,x.l.length≤1048576∧∀ s∈x.l,VO s):PCall (En G) 6 [.agg (EE m),.agg (IP x),.sl s 1 (l.map OV)] h (.bool true):=by
 refine ACalls.pure0 rfl ?_
 refine acN Tryz.func6 rfl ?_
 show awp _ _ _ _ _ (D8 _ [.tmp 6] _)
 have t:=Hb.mk' h m x
 simp -implicitDefEqProofs only [BC,BA,A8,AY,BB,AO,AQ,AL,BD,AX,AC,AA,AZ,AU,BM,A7,FM,BX,CB,BF,BL,↓reduceIte,jC,jA,jB,enP,bxM,bxH]
 generalize h ++ [ABlk.live 2 [EE m]] ++ [ABlk.live 3 [IP x]]=H at t ⊢
 generalize (h ++ [ABlk.live 2 [EE m]]).length=hb at t ⊢
 simp -implicitDefEqProofs only [AY,AO,AQ,AL,BD,AX,AC,AA,AZ,BU,BZ,BO,AB,jE,jD,jF,↓reduceIte,jA,jB,ldM t.gm]
 refine (AC5 G m hm H).use ?_
 intro b
 cases b
 ·simp -implicitDefEqProofs only [BC,BA,BI,A8,CZ,AY,BB,BK,BV,CO,FI,AO,AQ,AL,BD,AX,AC,AA,EK,AZ,AU,BU,BM,BG,CP,DL,GU,BZ,BO,AB,EP,jD,jF,↓reduceIte,jC,jA,jB]
  refine (KG G hG hT H).use ?_
  simp -implicitDefEqProofs only [BJ,A8,CQ,CJ,AY,BB,AO,AQ,AL,BD,AX,AC,AA,AZ,A7,↓reduceIte,jA,jB]
  exact ⟨by trivial,t.hx⟩
 simp -implicitDefEqProofs only [AY,BK,BV,CO,EF,AO,AQ,AL,BD,AX,AC,AA,AZ,AU,BH,BM,BG,CP,DN,BX,BQ,GU,BN,D6,AB,FD,EP,↓reduceIte,jC,jG,jA,jV,jB,enP,KH,PL,AJ0 t.gh,jI]
 rcases Bool.eq_false_or_eq_true (decide (((x.bins.length:Nat):Int) > 10)) with h1 | h1
 ·simp -implicitDefEqProofs only [BC,BA,BI,A8,CZ,AY,BB,BK,BV,CO,FI,AO,AQ,AL,BD,AX,AC,AA,EK,AZ,AU,BU,BM,CP,DL,BZ,BO,jD,jF,↓reduceIte,jC,jA,jB,h1]
  refine (KG G hG hT H).use ?_
  simp -implicitDefEqProofs only [BJ,A8,CQ,CJ,AY,BB,AO,AQ,AL,BD,AX,AC,AA,AZ,A7,↓reduceIte,jA,jB]
  exact ⟨by trivial,t.hx⟩
 simp -implicitDefEqProofs only [BK,BV,CO,EF,AO,AQ,AL,BD,AX,AC,AA,AZ,BU,BG,BZ,BO,BF,BL,jE,jD,jF,↓reduceIte,jC,jA,jB,h1]
 refine (AQJ G l s hl (fun x hx=>(he x hx).1) H).use ?_
 intro b
 cases b
 ·simp -implicitDefEqProofs only [BC,BA,BI,A8,CZ,AY,BB,BK,BV,CO,EF,AO,AQ,AL,BD,AX,AC,AA,AZ,AU,BU,BM,CP,DN,GU,BZ,BO,AB,EP,jD,jF,↓reduceIte,jC,jA,jB]
  refine (KG G hG hT H).use ?_
  simp -implicitDefEqProofs only [BJ,A8,CQ,CJ,AY,BB,AO,AQ,AL,BD,AX,AC,AA,AZ,A7,↓reduceIte,jA,jB]
  exact ⟨by trivial,t.hx⟩
 simp -implicitDefEqProofs only [BC,BA,BR,BI,A8,DI,AY,BB,BK,BV,CO,EF,AO,AQ,AL,BD,AX,AC,AA,AZ,AU,BU,BM,CP,DN,BX,GU,BZ,BO,AB,EP,jE,jD,jF,↓reduceIte,jC,jA,jV,jB,enP,ldM t.gm,ldH t.gh]
 refine (QN G hG m hm x hn H).use ?_
 unfold cnV
 simp -implicitDefEqProofs only [zH,zL,BC,BA,A8,AY,BB,AO,AQ,AL,BD,AX,AC,AA,AZ,BU,BG,A7,BX,EW,GG,BZ,BO,AB,BF,BL,jE,jD,jF,↓reduceIte,jC,jA,jB,enP,ldM t.gm,ldH t.gh]
 refine (hit_prog G hG hT m hm x hn l s H hl he).use ?_
 generalize hht:htV m x (OX m (l.map Ss.l)) (N7 m (l.map Ss.l))=ht
 obtain ⟨y,f⟩:=ht
 simp -implicitDefEqProofs only [zH,zL,BC,BA,A8,AY,BB,BK,BV,CO,AO,AQ,AL,BD,AX,AC,AA,AZ,AU,BH,BG,A7,BQ,EW,GG,AB,ET,↓reduceIte,jC,jA,jB,enP,bne]
 cases hz:(cnE FV m x == 0)
 ·have hz' : ¬ cnE FV m x=0:=by simpa using hz
  simp -implicitDefEqProofs only [BC,BA,BI,A8,CZ,AY,BB,BK,BV,CO,EF,FI,AO,AQ,AL,BD,AX,AC,AA,EK,AZ,AU,BH,BM,BG,CP,DL,DN,BQ,D6,AB,DR,↓reduceIte,jC,jA,jB,enP,ACI,bne,hz,if_neg hz',qE]
  have z0:(((0:Nat):Int) == 0)=true:=rfl
  simp -implicitDefEqProofs only [FY,AO,AQ,AL,BD,AX,BU,BZ,BO,jD,jF,jA,jB,z0]
  refine (KG G hG hT H).use ?_
  simp -implicitDefEqProofs only [BJ,A8,CQ,CJ,AY,BB,AO,AQ,AL,BD,AX,AC,AA,AZ,AU,BM,A7,CP,DL,↓reduceIte,jC,jA,jB]
  exact ⟨by trivial,t.hx⟩
 have hz':cnE FV m x=0:=by simpa using hz
 simp -implicitDefEqProofs only [AY,BK,BV,CO,EF,AO,AQ,AL,BD,AX,AC,AA,AZ,AU,BH,BM,BG,CP,DN,BQ,AB,ET,↓reduceIte,jC,jA,jV,jB,enP,hz]
 cases hf:(f == 0)
 ·simp -implicitDefEqProofs only [BC,BA,BI,A8,CZ,AY,BB,BK,BV,CO,FY,FI,AO,AQ,AL,BD,AX,AC,AA,EK,AZ,AU,BU,BH,BM,BG,CP,DL,BQ,BZ,BO,AB,DR,jD,jF,↓reduceIte,jC,jA,jB,enP,bne,hz,hf]
  refine (KG G hG hT H).use ?_
  simp -implicitDefEqProofs only [BJ,A8,CQ,CJ,AY,BB,AO,AQ,AL,BD,AX,AC,AA,AZ,AU,BM,A7,CP,DL,↓reduceIte,jC,jA,jB]
  exact ⟨by trivial,t.hx⟩
 have hf':f=0:=by simpa using hf
 simp -implicitDefEqProofs only [BK,BV,CO,EF,AO,AQ,AL,BD,AX,AC,AA,AZ,BU,BG,BZ,BO,BF,BL,jE,jD,jF,↓reduceIte,jC,jA,jV,jB,bne,hf,if_pos hz']
 refine (AVQ G hm hz' s l H hl he).use ?_
 cases hfu:ACT ((cnL FV m x).map xsOf) l
 ·simp -implicitDefEqProofs only [BC,BA,BI,A8,CZ,AY,BB,BK,BV,CO,FY,EF,FI,AO,AQ,AL,BD,AX,AC,AA,EK,AZ,AU,BU,BH,BM,BG,CP,DL,DN,BQ,GU,BZ,BO,AB,DR,EP,jD,jF,↓reduceIte,jC,jA,jB,enP,hz]
  refine (KG G hG hT H).use ?_
  simp -implicitDefEqProofs only [BJ,A8,CQ,CJ,AY,BB,AO,AQ,AL,BD,AX,AC,AA,AZ,AU,BM,A7,CP,DL,↓reduceIte,jC,jA,jB]
  exact ⟨by trivial,t.hx⟩
 obtain ⟨hv,hr,hy⟩:=AG2 (m:=m) (x:=x) (l:=l.map Ss.l) (by rw [hht]; exact hf')
 have hpos:=AMW hr hv hz' ((AKH _ _).1 hfu)
 rw [hht,decide_eq_true hpos] at hy
 have hy':y=true:=hy
 subst hy'
 simp -implicitDefEqProofs only [BC,BA,BR,BI,A8,DI,AY,BB,BK,BV,CO,FY,EF,AO,AQ,AL,BD,AX,AC,AA,AZ,AU,BU,BM,BG,CP,DN,GU,BZ,BO,AB,EP,jD,jF,↓reduceIte,jC,jA,jV,jB]
 refine (KG G hG hT H).use ?_
 simp -implicitDefEqProofs only [BJ,A8,CJ,AY,BB,AO,AQ,AL,BD,AX,AC,AA,AZ,AU,BM,A7,CP,DL,↓reduceIte,jC,jA,jB]
 exact ⟨by trivial,t.hx⟩
set_option maxHeartbeats 2000000 in
theorem A3Q (hG:GOk G) (hT:Q8 G) (m:Mo) (hm:MoOk m) (x:Hl) (hn:x.bins.length≤1048576) (l:List Ss) (s:SM) (h:Hp) (hl:l.length≤1048576) (he : ∀ x∈l,x.l.length≤1048576∧∀ s∈x.l,VO s):PCall (En G) 7 [.agg (EE m),.agg (IP x),.sl s 1 (l.map OV)] h (.bool true):=by
 refine ACalls.pure0 rfl ?_
 refine acN Tryz.func7 rfl ?_
 show awp _ _ _ _ _ (D8 _ [.tmp 6] _)
 have t:=Hb.mk' h m x
 simp -implicitDefEqProofs only [BC,BA,A8,AY,BB,AO,AQ,AL,BD,AX,AC,AA,AZ,AU,BM,A7,FM,BX,CB,BF,BL,↓reduceIte,jC,jA,jB,enP,bxM,bxH]
 generalize h ++ [ABlk.live 2 [EE m]] ++ [ABlk.live 3 [IP x]]=H at t ⊢
 generalize (h ++ [ABlk.live 2 [EE m]]).length=hb at t ⊢
 simp -implicitDefEqProofs only [AY,AO,AQ,AL,BD,AX,AC,AA,AZ,BU,BZ,BO,AB,jE,jD,jF,↓reduceIte,jA,jB,ldM t.gm]
 refine (AC5 G m hm H).use ?_
 intro b
 cases b
 ·simp -implicitDefEqProofs only [BC,BA,BI,A8,CZ,AY,BB,BK,BV,CO,FI,AO,AQ,AL,BD,AX,AC,AA,EK,AZ,AU,BU,BM,BG,CP,DL,GU,BZ,BO,AB,EP,jD,jF,↓reduceIte,jC,jA,jB]
  refine (KG G hG hT H).use ?_
  simp -implicitDefEqProofs only [BJ,A8,CQ,CJ,AY,BB,AO,AQ,AL,BD,AX,AC,AA,AZ,A7,↓reduceIte,jA,jB]
  exact ⟨by trivial,t.hx⟩
 simp -implicitDefEqProofs only [AY,BK,BV,CO,EF,AO,AQ,AL,BD,AX,AC,AA,AZ,AU,BH,BM,BG,CP,DN,BX,BQ,GU,BN,D6,AB,FD,EP,↓reduceIte,jC,jG,jA,jV,jB,enP,KH,PL,AJ0 t.gh,jI]
 rcases Bool.eq_false_or_eq_true (decide (((x.bins.length:Nat):Int) > 10)) with h1 | h1
 ·simp -implicitDefEqProofs only [BC,BA,BI,A8,CZ,AY,BB,BK,BV,CO,FI,AO,AQ,AL,BD,AX,AC,AA,EK,AZ,AU,BU,BM,BG,CP,DL,BZ,BO,jD,jF,↓reduceIte,jC,jA,jB,h1]
  refine (KG G hG hT H).use ?_
  simp -implicitDefEqProofs only [BJ,A8,CQ,CJ,AY,BB,AO,AQ,AL,BD,AX,AC,AA,AZ,A7,↓reduceIte,jA,jB]
  exact ⟨by trivial,t.hx⟩
 simp -implicitDefEqProofs only [BK,BV,CO,EF,AO,AQ,AL,BD,AX,AC,AA,AZ,BU,BG,BZ,BO,BF,BL,jE,jD,jF,↓reduceIte,jC,jA,jB,h1]
 refine (AQJ G l s hl (fun x hx=>(he x hx).1) H).use ?_
 intro b
 cases b
 ·simp -implicitDefEqProofs only [BC,BA,BI,A8,CZ,AY,BB,BK,BV,CO,EF,FI,AO,AQ,AL,BD,AX,AC,AA,EK,AZ,AU,BU,BM,BG,CP,DL,DN,GU,BZ,BO,AB,EP,jD,jF,↓reduceIte,jC,jA,jB]
  refine (KG G hG hT H).use ?_
  simp -implicitDefEqProofs only [BJ,A8,CQ,CJ,AY,BB,AO,AQ,AL,BD,AX,AC,AA,AZ,A7,↓reduceIte,jA,jB]
  exact ⟨by trivial,t.hx⟩
 simp -implicitDefEqProofs only [BI,A8,AY,BB,BK,BV,CO,EF,AO,AQ,AL,BD,AX,AC,AA,AZ,AU,BH,BM,BG,CP,DN,BQ,GU,D6,AB,DR,EP,BF,BL,↓reduceIte,jC,jA,jV,jB,enP,AJZ,jI]
 cases h2:(((l.length:Nat):Int) == 0)
 rotate_left
 ·simp -implicitDefEqProofs only [BC,BA,CZ,AY,AO,AQ,AL,BD,AX,BU,BZ,BO,jD,jF,jA,jB,h2]
  refine (KG G hG hT H).use ?_
  simp -implicitDefEqProofs only [BJ,A8,CQ,CJ,AY,BB,AO,AQ,AL,BD,AX,AC,AA,AZ,A7,↓reduceIte,jA,jB]
  exact ⟨by trivial,t.hx⟩
 have hne:0 < l.length:=by
  have : ¬ ((l.length:Nat):Int)=0:=by simpa using h2
  omega
 have hw:IntKind.i64.wrap (((l.length:Nat):Int) - 1)=((l.length - 1:Nat):Int):=by rw [wrap_i64 (by omega) (by omega)]; omega
 have hcut:JR Tryz.prog H 38 (.sl s 1 (l.map OV)) none (some (.int .i64 ((l.length - 1:Nat):Int))) none=some (.sl (A3C s (l.length - 1) (l.map OV).length) 1 (l.dropLast.map OV)):=by
  rw [A4D (P:=Tryz.prog) (t:=38) (e:=60) (k:=1) (by kernel_rfl) (by kernel_rfl) (by rw [jI]; omega),← List.map_take,List.dropLast_eq_take]
 simp -implicitDefEqProofs only [BC,BA,BR,A8,DI,AY,AO,AQ,AL,BD,AX,AC,AA,AZ,BU,BX,BZ,BO,AB,jE,jD,jF,↓reduceIte,jC,jA,jB,enP,h2,ldM t.gm,ldH t.gh]
 refine (QN G hG m hm x hn H).use ?_
 unfold cnV
 simp -implicitDefEqProofs only [zH,zL,BC,BA,A8,AY,BB,AO,AQ,AL,BD,AX,AC,AA,AZ,BU,BG,A7,BX,EW,GG,BZ,BO,AB,BF,BL,jE,jD,jF,↓reduceIte,jC,jA,jB,enP,ldM t.gm,ldH t.gh]
 refine (hit_prog G hG hT m hm x hn l s H hl he).use ?_
 simp -implicitDefEqProofs only [zH,zL,BC,A8,AY,BB,AO,AQ,AL,BD,AX,AC,AA,AZ,BG,A7,EW,GG,AB,↓reduceIte,jC,jA,jB]
 refine FN (by kernel_rfl) ?_
 simp -implicitDefEqProofs only [G5,Option.map_some,Option.map_none,EM,D9,EQ,GH,FT,J7,AOV,KL,JM,H6,GN,AO,AA,AZ,AU,BU,BH,BX,BQ,QP,EW,D6,AB,JK,BF,BL,jE,jD,jF,↓reduceIte,jC,jQ,jA,enP,AJZ,ldM t.gm,ldH t.gh,jI,hw,hcut]
 refine ⟨_,hit_prog G hG hT m hm x hn l.dropLast _ H (by rw [List.length_dropLast]; omega) (fun y hy=>he y ((List.dropLast_sublist l).subset hy)),?_⟩
 generalize hht:htV m x (OX m (l.map Ss.l)) (N7 m (l.map Ss.l))=ht
 generalize hhu:htV m x (OX m (l.dropLast.map Ss.l)) (N7 m (l.dropLast.map Ss.l))=hu
 obtain ⟨y,f⟩:=ht
 obtain ⟨z,g⟩:=hu
 have hyf:(f == 0)=false→y=false:=fun hf=>by
  have:=A5G (m:=m) (x:=x) (c:=OX m (l.map Ss.l)) (e:=N7 m (l.map Ss.l)) (by rw [hht]; simpa using hf)
  rw [hht] at this
  exact this
 simp -implicitDefEqProofs only [G5,zH,zL,EM,D9,FU,EQ,JI,KL,BC,BA,A8,AY,BK,BV,CO,AO,AQ,AL,BD,AX,AC,AA,AZ,AU,BH,BG,BQ,EW,GG,AB,ET,↓reduceIte,jC,jQ,jA,jB,enP,bne]
 cases hz:(cnE FV m x == 0)
 ·simp -implicitDefEqProofs only [BC,BA,BI,A8,CZ,AY,BB,BK,BV,CO,FI,AO,AQ,AL,BD,AX,AC,AA,EK,AZ,AU,BH,BM,BG,CP,DL,BQ,AB,DR,↓reduceIte,jC,jA,jB,enP,bne,hz]
  cases hf:(f == 0)
  ·rw [hyf hf]
   simp -implicitDefEqProofs only [AY,BK,BV,CO,FY,EF,AO,AQ,AL,BD,AX,AC,AA,AZ,AU,BU,BM,BG,CP,DN,GU,BZ,BO,AB,EP,jD,jF,↓reduceIte,jC,jA,jB,bne,hf]
   refine (KG G hG hT H).use ?_
   simp -implicitDefEqProofs only [BJ,A8,CQ,CJ,AY,BB,AO,AQ,AL,BD,AX,AC,AA,AZ,AU,BM,A7,CP,DL,↓reduceIte,jC,jA,jB]
   exact ⟨by trivial,t.hx⟩
  ·simp -implicitDefEqProofs only [AY,BK,BV,CO,FY,FI,AO,AQ,AL,BD,AX,AC,AA,EK,AZ,AU,BU,BM,BG,CP,DL,BZ,BO,jD,jF,↓reduceIte,jC,jA,jB,bne,hf]
   refine (KG G hG hT H).use ?_
   simp -implicitDefEqProofs only [BJ,A8,CQ,CJ,AY,BB,AO,AQ,AL,BD,AX,AC,AA,AZ,AU,BM,A7,CP,DL,↓reduceIte,jC,jA,jB]
   exact ⟨by trivial,t.hx⟩
 have hz':cnE FV m x=0:=by simpa using hz
 simp -implicitDefEqProofs only [AY,BK,BV,CO,EF,AO,AQ,AL,BD,AX,AC,AA,AZ,AU,BH,BM,BG,CP,DN,BQ,AB,ET,↓reduceIte,jC,jA,jV,jB,enP,bne,hz]
 cases hf:(f == 0)
 ·rw [hyf hf]
  simp -implicitDefEqProofs only [BC,BA,BI,A8,CZ,AY,BB,BK,BV,CO,FY,EF,FI,AO,AQ,AL,BD,AX,AC,AA,EK,AZ,AU,BU,BH,BM,BG,CP,DL,DN,BQ,GU,BZ,BO,AB,DR,EP,jD,jF,↓reduceIte,jC,jA,jB,enP,bne,hf]
  refine (KG G hG hT H).use ?_
  simp -implicitDefEqProofs only [BJ,A8,CQ,CJ,AY,BB,AO,AQ,AL,BD,AX,AC,AA,AZ,AU,BM,A7,CP,DL,↓reduceIte,jC,jA,jB]
  exact ⟨by trivial,t.hx⟩
 have hf':f=0:=by simpa using hf
 simp -implicitDefEqProofs only [AY,BK,BV,CO,EF,AO,AQ,AL,BD,AX,AC,AA,AZ,AU,BH,BM,BG,CP,DN,BQ,AB,ET,↓reduceIte,jC,jA,jV,jB,enP,bne,hf]
 cases hg:(g == 0)
 ·simp -implicitDefEqProofs only [BC,BA,BI,A8,CZ,AY,BB,BK,BV,CO,FY,FI,AO,AQ,AL,BD,AX,AC,AA,EK,AZ,AU,BU,BH,BM,BG,CP,DL,BQ,BZ,BO,AB,DR,jD,jF,↓reduceIte,jC,jA,jB,enP,bne,hf,hg]
  refine (KG G hG hT H).use ?_
  simp -implicitDefEqProofs only [BJ,A8,CQ,CJ,AY,BB,AO,AQ,AL,BD,AX,AC,AA,AZ,AU,BM,A7,CP,DL,↓reduceIte,jC,jA,jB]
  exact ⟨by trivial,t.hx⟩
 have hg':g=0:=by simpa using hg
 simp -implicitDefEqProofs only [AY,BK,BV,CO,EF,AO,AQ,AL,BD,AX,AC,AA,AZ,AU,BM,BG,CP,DN,GU,AB,EP,↓reduceIte,jC,jA,jV,jB,bne,hf,hg]
 cases y
 ·simp -implicitDefEqProofs only [BC,BA,BI,A8,CZ,AY,BB,BK,BV,CO,FY,FI,AO,AQ,AL,BD,AX,AC,AA,EK,AZ,AU,BU,BH,BM,BG,CP,DL,BQ,BZ,BO,AB,DR,jD,jF,↓reduceIte,jC,jA,jB,enP,bne,hf,hg]
  refine (KG G hG hT H).use ?_
  simp -implicitDefEqProofs only [BJ,A8,CQ,CJ,AY,BB,AO,AQ,AL,BD,AX,AC,AA,AZ,AU,BM,A7,CP,DL,↓reduceIte,jC,jA,jB]
  exact ⟨by trivial,t.hx⟩
 simp -implicitDefEqProofs only [BI,A8,AY,BB,EF,AO,AQ,AL,BD,AX,AC,AA,AZ,AU,BM,BG,CP,DN,↓reduceIte,jC,jA,jV,jB]
 cases z
 rotate_left
 ·simp -implicitDefEqProofs only [BC,BA,CZ,AY,BK,BV,CO,FY,FI,AO,AQ,AL,BD,AX,AC,AA,EK,AZ,AU,BU,BH,BM,BG,CP,DL,BQ,BZ,BO,AB,DR,jD,jF,↓reduceIte,jC,jA,jB,enP,bne,hf,hg]
  refine (KG G hG hT H).use ?_
  simp -implicitDefEqProofs only [BJ,A8,CQ,CJ,AY,BB,AO,AQ,AL,BD,AX,AC,AA,AZ,AU,BM,A7,CP,DL,↓reduceIte,jC,jA,jB]
  exact ⟨by trivial,t.hx⟩
 obtain ⟨hv,hr,hy⟩:=AG2 (m:=m) (x:=x) (l:=l.map Ss.l) (by rw [hht]; exact hf')
 obtain ⟨_,hr2,hy2⟩:=AG2 (m:=m) (x:=x) (l:=l.dropLast.map Ss.l) (by rw [hhu]; exact hg')
 rw [hht] at hy
 rw [hhu] at hy2
 have hd:(l.map Ss.l).dropLast=l.dropLast.map Ss.l:=by rw [List.map_dropLast]
 have hful:=AJH (l:=l.map Ss.l) (by intro q; have:=congrArg List.length q; rw [jI,qE] at this; omega) hr (by rw [hd]; exact hr2) hv hz' (of_decide_eq_true hy.symm) (by rw [hd]; exact of_decide_eq_false hy2.symm)
 have hfu:=(AKH _ _).2 hful
 simp -implicitDefEqProofs only [BC,BA,BR,A8,DI,AY,AO,AQ,AL,BD,AX,AC,AA,AZ,BU,BG,BZ,BO,BF,BL,jE,jD,jF,↓reduceIte,jC,jA,jB,bne,hf,hg,if_pos hz']
 have hF:=AVQ G hm hz' s l H hl he
 rw [hfu] at hF
 refine hF.use ?_
 simp -implicitDefEqProofs only [AY,BK,BV,CO,FY,AO,AQ,AL,BD,AX,AC,AA,AZ,BU,BG,BZ,BO,jD,jF,↓reduceIte,jA,jB]
 refine (KG G hG hT H).use ?_
 simp -implicitDefEqProofs only [BJ,A8,CJ,AY,BB,AO,AQ,AL,BD,AX,AC,AA,AZ,AU,BM,A7,CP,DL,↓reduceIte,jC,jA,jB]
 exact ⟨by trivial,t.hx⟩
end
end Go.Proofs.YtfpagfhhhlljjaaGreatDoor.Ho
