/- Part 7 of the proof (M13, M14, N1, N2, N4, N5, N7, N8, N9, N10, N11, N12, N13); no condition. -/
import Derived.Test.YtocilianjfhifaaGreatDoorYC6
set_option linter.unusedVariables false
set_option linter.unusedSimpArgs false
set_option maxRecDepth 8000
namespace Go.Proofs.YtocilianjfhifaaGreatDoor.Cov
open Sm Bins Go.RowKit
open Bool renaming not_eq_true→qN,not_false→jC,not_true→jT,and_eq_true→jV,false_eq_true→jY
open List renaming any_eq_false→wB,length_map→jI,getElem_mem→jS,append_assoc→zA,map_cons→jD,map_nil→jE,append_nil→jF,drop_eq_nil_of_le→jW,getElem?_eq_getElem→jU,nil_append→zY,findIdx?_eq_some_iff_getElem→qU,take_succ_eq_append_getElem→zL,take_of_length_le→jX,findIdx?_eq_none_iff→qV,drop_eq_getElem_cons→zJ,take_zero→zN,getElem?_cons_zero→zB,getElem?_cons_succ→zG,length_append→qB,mem_of_getElem?→zW,mem_append→qE,length_cons→qQ
open Nat renaming le_of_ble_eq_true→jH,reduceEqDiff→jA,zero_add→jG,reduceAdd→jK,add_zero→jL,le_refl→jM,le_trans→zZ
open Option renaming getD_some→jB,getD_none→jP
def O7 (G:Nat->AV):Prop:=∀(ns:List Nat) (s:SM) (K:Nat) (h:Hp),0<ns.length->ns.length<=4->(∀n∈ns,1<=n∧n<=64)->K<=1048576 ->
 PCall (En G) 168 [.sl s 1 (ns.map IG),.int .i64 (K:Int)] h (.sl .any 1 ((NF ns K).map encI))
structure CrGood (m:Mo) (c:Cr):Prop where
 here:Here m c.pts
 two:2<=c.pts.length
 four:c.pts.length<=4
 prod:GL (szs m c.pts)<=256
 num:c.excl.length<=256
 excl:∀x∈c.excl,MQ (szs m c.pts) x.l=true
theorem ARR {m:Mo}{c:Cr}(h:IJ m c=0):CrGood m c:=by
 unfold IJ at h;split at h
 .cases h
 .split at h
  .cases h
  .split at h
   .cases h
   .split at h
    .cases h
    .split at h
     .cases h
     .rename_i h1 h2 h3 h4 h5
      have h3':V8 m.pts.length none c.pts=true:=by simpa using h3
      refine⟨WY h3',by omega,by omega,by omega,by omega,fun x hx=>?_⟩;rw[qN,wB] at h5;have:=h5 x hx;simpa using this
structure Good (m:Mo):Prop where
 num:m.pts.length+m.crs.length<=16
 full:Full m
 crs:∀c∈m.crs,CrGood m c
theorem LX {m:Mo}(h:EU m=0):Good m:=by
 unfold EU at h;split at h
 .cases h
 .split at h
  .rename_i h2; exact absurd h h2
  .split at h
   .cases h
   .split at h
    .rename_i h4; exact absurd h h4
    .rename_i h1 h2 h3 h4
     refine⟨by omega,full_of (by simpa using h2),fun c hc=>ARR (ZE _ (by simpa using h4) c hc)⟩
theorem ARF (G:Nat->AV)(hT:O7 G)(m:Mo)(l:List Is)(s:SM)(h:Hp)(hm:MoOk m)(hg:Good m)(hl:∀x∈l,x.l.length<=1048576):PCall (En G) 125 [.agg (D6 m),.sl s 1 (l.map encL)] h (.bool (KA (okC m) m.crs l)):=by
 refine ACalls.pure0 rfl ?_;have hm1:=hm.nc;refine acN Tryz.func125 rfl ?_;show awp _ _ _ _ _ (EN _ [.tmp 4] _);simp -implicitDefEqProofs only[BC,BA,BI,A8,AY,BB,AO,AQ,AL,BD,AX,AC,AA,AZ,AU,BM,BG,A7,FU,BQ,BR,BJ,D7,BZ,AB,EK,BF,BN,↓reduceIte,jA,jG,jB,jC,enP,VL,J4,XI,bxM,DL AA5,UI,jI];refine CU (fun h1=>?_) (fun h1=>?_)
 .simp -implicitDefEqProofs only[BC,BA,BK,A8,CP,CG,AY,BB,AO,AQ,AL,BD,AX,AC,AA,AU,BM,A7,↓reduceIte,jB,jC]
  have:KA (okC m) m.crs l=false:=by
   rw[<-qN]; intro e;have:=NR e;simp at h1; omega
  exact⟨by rw[this],_,rfl⟩
 have hlen:l.length=m.crs.length:=by simp at h1; omega
 simp -implicitDefEqProofs only[BC,BP,BA,BO,A8,AY,BB,AO,AQ,AL,BD,AX,AC,AA,AZ,AU,BH,BG,BQ,BJ,D7,AB,↓reduceIte,jA,jG,jB,jC,enP,VL,J4,DL AA5,UI,jI];refine DK (fun n F H=>∃i,n+i=m.crs.length∧F 1=.sl s 1 (l.map encL)∧F 2=.ptr h.length 0 0∧F 17=.sl m.cm 3 (m.crs.map GG)∧F 18=.int .i64 m.crs.length∧F 19=.int .i64 (i:Nat)∧H[h.length]?=some (.live 2 [D6 m])∧(∃x,H=h++x)∧KA (okC m) m.crs l=KA (okC m) (m.crs.drop i) (l.drop i)) m.crs.length ⟨0,by simp,by simp -implicitDefEqProofs only[AA,BF,BN,↓reduceIte,jA],by simp -implicitDefEqProofs only[AA,↓reduceIte,jA],by simp -implicitDefEqProofs only[AA,↓reduceIte,jA],by simp -implicitDefEqProofs only[AA,↓reduceIte,jA],by simp -implicitDefEqProofs only[AA,↓reduceIte]; rfl,CY _ _,⟨_,rfl⟩,rfl⟩ ?_;rintro n F H ⟨i,hi,f1,f2,f17,f18,f19,gm,hx,hf⟩;simp -implicitDefEqProofs only[BC,BA,BI,A8,AY,BB,AO,AQ,AL,BD,AX,AC,AA,AZ,BR,AB,DC,↓reduceIte,jB,jC,enP,f18,f19];refine CU (fun hc=>?_) (fun hc=>?_)
 .have hi':i<m.crs.length:=by simpa using hc
  have hil:i<l.length:=by omega
  rw[XA (okC m) m.crs l i hi' hil] at hf;have hcg:=hg.crs _ (jS hi');have hfs:=hg.full.szs hcg.here;have hsl:=LJ m m.crs[i].pts
  have hx1:∃x,H++[ABlk.live 3 [GG m.crs[i]]]=h++x:=by
   obtain⟨x,rfl⟩:=hx;exact⟨_,zA _ _ _⟩
  have hxl:=hl _ (jS hil);have gm1:(H++[ABlk.live 3 [GG m.crs[i]]])[h.length]?=some (.live 2 [D6 m]):=CV gm;have gc1:=CY H (.live 3 [GG m.crs[i]]);have htwo:=hcg.two;have hfour:=hcg.four;have hpr:=hcg.prod;simp -implicitDefEqProofs only[BC,BP,BA,BO,A8,AY,BB,AO,AQ,AL,BD,AX,AC,EM,AA,AZ,BX,BG,A7,FD,BQ,D5,CE,CB,BU,BZ,AB,CX,jD,jE,jF,↓reduceIte,jA,jB,jC,enP,V7,jP,f2,f17,f19,DU hi',FM ZV XH J7 hi',AR3,AQA _ _ [.str ⟨#[]⟩,.sl .nil 0 [],.sl .nil 0 []] rfl,ldM gm1,ldC gc1];refine(RG G m _ _ hcg.here (by omega)).use ?_;simp -implicitDefEqProofs only[BC,A8,AY,BB,AO,AQ,AL,BD,AX,AC,AA,AZ,A7,↓reduceIte,jB,jC];refine EZ (by kernel_rfl) ?_;simp -implicitDefEqProofs only[FZ,ED,DN,EF,FO,FB,IY,EE,IC,GH,F8,AO,AA,AZ,BX,BQ,BR,CE,D7,AB,jD,jE,jF,↓reduceIte,jA,jK,jB,enP,N7,JA,f1,DU hil,DF KC hil,NE,jI];refine⟨_,QQ G _ _ _ (fun n hn=>(hfs n hn).2) (by omega),?_⟩
  try simp -implicitDefEqProofs only[DN,E8,BI,A8,AA,AZ,AB,EK,↓reduceIte]
  refine CU (fun h2=>?_) (fun h2=>?_)
  .simp -implicitDefEqProofs only[BC,BA,BK,A8,CP,EG,FQ,CG,AY,BB,AO,AQ,AL,BD,AX,AC,AA,AU,BM,A7,↓reduceIte,jB,jC]
   have:okC m m.crs[i] l[i]=false:=by
    have:(l[i].l.length==GL (szs m m.crs[i].pts))=false:=by
     rw[beq_eq_false_iff_ne]; intro e; simp [e] at h2
    unfold okC; rw[this]; rfl
   exact⟨by rw[hf,this]; rfl,hx1⟩
  have hbl:l[i].l.length=GL (szs m m.crs[i].pts):=by simp at h2; omega
  have hok:okC m m.crs[i] l[i]=PH (fun k=>QT m m.crs[i] (NF (szs m m.crs[i].pts) k)) 0 l[i].l:=by
   unfold okC; rw[beq_iff_eq.2 hbl]; rfl
  simp -implicitDefEqProofs only[BC,BP,BA,BO,A8,AY,BB,AO,AQ,AL,BD,AX,AC,AA,AZ,AU,BH,BG,BQ,CE,D7,AB,↓reduceIte,jA,jB,jC,enP,N7,JA,f1,DU hil,DF KC hil,NE,jI];refine GN 2 (fun F' H'=>F' 1=.sl s 1 (l.map encL)∧F' 2=.ptr h.length 0 0∧F' 17=.sl m.cm 3 (m.crs.map GG)∧F' 18=.int .i64 m.crs.length∧F' 19=.int .i64 (i:Nat)∧H'=H++[.live 3 [GG m.crs[i]]]∧okC m m.crs[i] l[i]=true) (fun F' H'=>F' 4=.bool false∧H'=H++[.live 3 [GG m.crs[i]]]∧okC m m.crs[i] l[i]=false) ?_ ?_ ?_
  .refine DK (fun n F' H'=>∃k,n+k=l[i].l.length∧F' 1=.sl s 1 (l.map encL)∧F' 2=.ptr h.length 0 0∧F' 17=.sl m.cm 3 (m.crs.map GG)∧F' 18=.int .i64 m.crs.length∧F' 19=.int .i64 (i:Nat)∧F' 6=.ptr H.length 0 0∧F' 7=.sl (nm (szs m m.crs[i].pts)) 1 ((szs m m.crs[i].pts).map IG)∧F' 38=.sl l[i].m 1 (l[i].l.map encI)∧F' 39=.int .i64 l[i].l.length∧F' 40=.int .i64 (k:Nat)∧H'=H++[.live 3 [GG m.crs[i]]]∧okC m m.crs[i] l[i]=PH (fun k=>QT m m.crs[i] (NF (szs m m.crs[i].pts) k)) k (l[i].l.drop k)) l[i].l.length ⟨0,by simp,by simp -implicitDefEqProofs only[AA,↓reduceIte,jA,f1],by simp -implicitDefEqProofs only[AA,↓reduceIte,jA,f2],by simp -implicitDefEqProofs only[AA,↓reduceIte,jA,f17],by simp -implicitDefEqProofs only[AA,↓reduceIte,jA,f18],by simp -implicitDefEqProofs only[AA,↓reduceIte,jA,f19],by simp -implicitDefEqProofs only[AA,↓reduceIte,jA],by simp -implicitDefEqProofs only[AA,↓reduceIte,jA],by simp -implicitDefEqProofs only[AA,↓reduceIte,jA],by simp -implicitDefEqProofs only[AA,↓reduceIte,jA],by simp -implicitDefEqProofs only[AA,↓reduceIte]; rfl,rfl,hok⟩ ?_
   clear f1 f2 f17 f18 f19;rintro n' F H' ⟨k,hk,f1,f2,f17,f18,f19,f6,f7,f38,f39,f40,rfl,hr⟩;simp -implicitDefEqProofs only[BC,BA,BI,A8,AY,BB,AO,AQ,AL,BD,AX,AC,AA,AZ,BR,AB,DC,↓reduceIte,jB,jC,enP,f39,f40];refine CU (fun hc=>?_) (fun hc=>?_)
   .have hk':k<l[i].l.length:=by simpa using hc
    rw[WT _ _ _ hk'] at hr;simp -implicitDefEqProofs only[BC,BP,BA,BO,A8,AY,BB,AO,AQ,AL,BD,AX,AC,AA,AZ,BG,A7,BQ,CE,AB,↓reduceIte,jA,jB,jC,enP,JF,f38,f40,DU hk',DF ag3 hk',encI0];refine EZ (by kernel_rfl) ?_;simp -implicitDefEqProofs only[FZ,ED,DN,EF,FO,FB,AC2,GH,F8,AO,AA,AZ,BX,BQ,IE,AB,jD,jE,jF,↓reduceIte,jA,jK,jB,enP,f2,f6,f7,ldM gm1,ldC gc1];refine⟨_,hT _ _ k _ (by omega) (by omega) hfs (by omega),?_⟩
    try simp -implicitDefEqProofs only[]
    refine⟨_,XQ G m m.crs[i] _ _ _ hcg.here (UA _ _ fun n hn=>(hfs n hn).1) (by omega) (by have:=hcg.num; omega),?_⟩
    try simp -implicitDefEqProofs only[]
    refine⟨_,U7 G _ _ _,?_⟩
    try simp -implicitDefEqProofs only[DN,E8,BI,A8,AA,AZ,AB,FK,↓reduceIte]
    cases hcb:countB l[i].l[k] (QT m m.crs[i] (NF (szs m m.crs[i].pts) k))
    .simp -implicitDefEqProofs only[BC,BA,BK,A8,CP,EG,NG,FQ,DI,AY,BB,AO,AQ,AL,BD,AX,AC,AA,AU,BM,A7,↓reduceIte,jB,jC]
     exact⟨trivial,trivial,by rw[hr,hcb]; rfl⟩
    .simp -implicitDefEqProofs only[BA,BO,A8,EJ,EQ,DT,AY,BB,AO,AQ,AL,BD,AX,AC,AA,AZ,AU,BH,BG,BR,AB,CZ,↓reduceIte,jA,jB,jT,jC,enP,f40,wrap_succ (show k<9223372036854775807 by omega)]
     exact⟨n'-1,by omega,k+1,by omega,f1,f2,f17,f18,f19,f6,f7,f38,f39,rfl,trivial,by rw[hr,hcb]; rfl⟩
   .have hk':¬k<l[i].l.length:=by simpa using hc
    simp -implicitDefEqProofs only[DJ,EI,J3,ET,AA,↓reduceIte,jA];exact⟨f1,f2,f17,f18,f19,trivial,by rw[hr,jW (by omega)]; rfl⟩
  .rintro F' H' ⟨g1,g2,g17,g18,g19,rfl,hr⟩
   simp -implicitDefEqProofs only[BA,A8,EJ,EW,EQ,AY,BB,AO,AQ,AL,BD,AX,AC,AA,AZ,AU,BH,BG,BR,AB,CZ,↓reduceIte,jA,jB,jC,enP,g19,wrap_succ (show i<9223372036854775807 by omega)];exact⟨n-1,by omega,i+1,by omega,g1,g2,g17,g18,rfl,gm1,hx1,by rw[hf,hr]; rfl⟩
  .rintro F' H' ⟨g4,rfl,hr⟩
   simp -implicitDefEqProofs only[CP,EG,FQ,CG,g4];exact⟨by rw[hf,hr]; rfl,hx1⟩
 .have hi':¬i<m.crs.length:=by simpa using hc
  simp -implicitDefEqProofs only[BC,BA,BK,DJ,A8,EI,EW,ET,CG,AY,BB,AO,AQ,AL,BD,AX,AC,AA,AU,BM,A7,↓reduceIte,jB,jC];exact⟨by rw[hf,ZI (okC m) _ _ i (by omega) (by omega)],hx⟩
def GK (m:Mo)(v:Cvr):Bool:=(EU m==0)&&KA okP m.pts v.pts&&KA (okC m) m.crs v.crs&&II v.sam&&II v.ill
theorem ABX (n:Int):countB n true=II n:=by unfold countB; simp
theorem AAR (G:Nat->AV)(hG:GOk G)(hT:O7 G)(m:Mo)(v:Cvr)(hm:MoOk m)(hv:CvOk v)(h:Hp):PCall (En G) 66 [.agg (D6 m),.agg (ER v)] h (.bool (GK m v)):=by
 refine ACalls.pure0 rfl ?_;refine acN Tryz.func66 rfl ?_;show awp _ _ _ _ _ (EN _ [.tmp 4] _);have gm:(h++[ABlk.live 2 [D6 m]]++[ABlk.live 4 [ER v]])[h.length]?=some (.live 2 [D6 m]):=CV (CY _ _);have gv:=CY (h++[ABlk.live 2 [D6 m]]) (.live 4 [ER v]);have hx:∃x,h++[ABlk.live 2 [D6 m]]++[ABlk.live 4 [ER v]]=h++x:=⟨_,zA _ _ _⟩;simp -implicitDefEqProofs only[BC,BA,A8,AY,BB,AO,AQ,AL,BD,AX,AC,AA,AZ,AU,BM,A7,FU,BQ,BZ,BF,BN,↓reduceIte,jA,jB,jC,enP,bxM,bxV]
 generalize h++[ABlk.live 2 [D6 m]]++[ABlk.live 4 [ER v]]=H at gm gv hx|-
 generalize (h++[ABlk.live 2 [D6 m]]).length=vb at gv|-
 have l0:EH Tryz.prog H 26 (.ptr vb 0 0)=some (.sl v.pm 1 (v.pts.map encL)):=by rw[DW QX gv (row:=ER v) rfl,AKY]
 have l1:EH Tryz.prog H 26 (.ptr vb 0 1)=some (.sl v.cm 1 (v.crs.map encL)):=by rw[DW QX gv (row:=ER v) rfl,AKX]
 have l2:EH Tryz.prog H 3 (.ptr vb 0 2)=some (.int .i64 v.sam):=by rw[DW ag3 gv (row:=ER v) rfl,APR]
 have l3:EH Tryz.prog H 3 (.ptr vb 0 3)=some (.int .i64 v.ill):=by rw[DW ag3 gv (row:=ER v) rfl,APQ]
 simp -implicitDefEqProofs only[AY,AO,AQ,AL,BD,AX,AC,AA,AZ,BX,CB,BU,AB,jD,jE,jF,↓reduceIte,jB,jC,ldM gm];refine(RP G hG m hm _).use ?_;simp -implicitDefEqProofs only[AY,BL,BV,CO,AO,AQ,AL,BD,AX,AC,AA,AZ,AU,BH,BG,BR,AB,EC,↓reduceIte,jB,jC,enP];cases h1:(EU m==0)
 .simp -implicitDefEqProofs only[BK,A8,CG,AY,BB,BL,BV,CO,IX,AO,AQ,AL,BD,AX,AC,AA,EX,AZ,AU,BM,BG,A7,CQ,DX,↓reduceIte,jA,jB,jC]
  exact⟨by unfold GK; rw[h1]; rfl,hx⟩
 have hg:=LX (beq_iff_eq.1 h1);simp -implicitDefEqProofs only[BL,BV,CO,F9,AO,AQ,AL,BD,AX,AC,AA,AZ,BX,BQ,BJ,CB,BU,AB,jD,jE,jF,↓reduceIte,jA,jL,jB,jC,enP,L8,ldM gm,l0];refine(ARD G m v.pts v.pm _ hm hv.eachP).use ?_;simp -implicitDefEqProofs only[AY,BL,BV,CO,AO,AQ,AL,BD,AX,AC,AA,AZ,AU,BM,BG,CQ,DY,↓reduceIte,jA,jB,jC];cases h2:KA okP m.pts v.pts
 .simp -implicitDefEqProofs only[BK,A8,CG,AY,BB,BL,BV,CO,IX,AO,AQ,AL,BD,AX,AC,AA,EX,AZ,AU,BM,BG,A7,CQ,DX,↓reduceIte,jA,jB,jC]
  exact⟨by unfold GK; rw[h1,h2]; rfl,hx⟩
 simp -implicitDefEqProofs only[BL,BV,CO,F9,AO,AQ,AL,BD,AX,AC,AA,AZ,BX,BQ,BJ,CB,BU,AB,jD,jE,jF,↓reduceIte,jA,jG,jB,jC,enP,KX,ldM gm,l1];refine(ARF G hT m v.crs v.cm _ hm hg hv.eachC).use ?_;simp -implicitDefEqProofs only[AY,BL,BV,CO,AO,AQ,AL,BD,AX,AC,AA,AZ,AU,BM,BG,CQ,DY,↓reduceIte,jA,jB,jC];cases h3:KA (okC m) m.crs v.crs
 .simp -implicitDefEqProofs only[BK,A8,CG,AY,BB,BL,BV,CO,IX,AO,AQ,AL,BD,AX,AC,AA,EX,AZ,AU,BM,BG,A7,CQ,DX,↓reduceIte,jA,jB,jC]
  exact⟨by unfold GK; rw[h1,h2,h3]; rfl,hx⟩
 simp -implicitDefEqProofs only[BL,BV,CO,F9,AO,AQ,AL,BD,AX,AC,AA,AZ,AU,BX,BM,BQ,BJ,CB,BU,AB,jD,jE,jF,↓reduceIte,jA,jG,jB,jC,enP,TU,l2];refine(U7 G _ _ _).use ?_;simp -implicitDefEqProofs only[AY,BL,BV,CO,AO,AQ,AL,BD,AX,AC,AA,AZ,AU,BM,BG,CQ,DY,↓reduceIte,jA,jB,jC,ABX];cases h4:II v.sam
 .simp -implicitDefEqProofs only[BK,A8,CG,AY,BB,BL,BV,CO,IX,AO,AQ,AL,BD,AX,AC,AA,EX,AZ,AU,BM,A7,CQ,DX,↓reduceIte,jA,jB,jC]
  exact⟨by unfold GK; rw[h1,h2,h3,h4]; rfl,hx⟩
 simp -implicitDefEqProofs only[BL,BV,CO,F9,AO,AQ,AL,BD,AX,AC,AA,AZ,AU,BX,BM,BQ,BJ,CB,BU,AB,jD,jE,jF,↓reduceIte,jA,jG,jB,jC,enP,U6,l3];refine(U7 G _ _ _).use ?_;simp -implicitDefEqProofs only[BK,A8,CG,AY,BB,AO,AQ,AL,BD,AX,AC,AA,AZ,AU,BM,A7,CQ,DY,↓reduceIte,jA,jB,jC,ABX];exact⟨by unfold GK; rw[h1,h2,h3,h4]; rfl,hx⟩
structure TwoV (h H:Hp) (m:Mo) (v:Cvr) (vb:Nat):Prop where
 gm:H[h.length]?=some (.live 2 [D6 m])
 gv:H[vb]?=some (.live 4 [ER v])
 hx:∃x,H=h++x
theorem TwoV.mk' (h:Hp)(m:Mo)(v:Cvr):TwoV h (h++[.live 2 [D6 m]]++[.live 4 [ER v]]) m v (h++[ABlk.live 2 [D6 m]]).length:=⟨CV (CY _ _),CY _ _,⟨_,zA _ _ _⟩⟩
section
variable {h H:Hp} {m:Mo} {v:Cvr} {vb:Nat} (t:TwoV h H m v vb)
include t
theorem TwoV.m0:EH Tryz.prog H 22 (.ptr h.length 0 0)=some (.sl m.pm 6 (m.pts.map GM)):=by rw[DW WN t.gm (row:=D6 m) rfl,QA]
theorem TwoV.m1:EH Tryz.prog H 23 (.ptr h.length 0 1)=some (.sl m.cm 3 (m.crs.map GG)):=by rw[DW AA5 t.gm (row:=D6 m) rfl,UI]
theorem TwoV.l0:EH Tryz.prog H 26 (.ptr vb 0 0)=some (.sl v.pm 1 (v.pts.map encL)):=by rw[DW QX t.gv (row:=ER v) rfl,AKY]
theorem TwoV.l1:EH Tryz.prog H 26 (.ptr vb 0 1)=some (.sl v.cm 1 (v.crs.map encL)):=by rw[DW QX t.gv (row:=ER v) rfl,AKX]
theorem TwoV.l2:EH Tryz.prog H 3 (.ptr vb 0 2)=some (.int .i64 v.sam):=by rw[DW ag3 t.gv (row:=ER v) rfl,APR]
theorem TwoV.l3:EH Tryz.prog H 3 (.ptr vb 0 3)=some (.int .i64 v.ill):=by rw[DW ag3 t.gv (row:=ER v) rfl,APQ]
end
theorem AEP (n:Int)(may:Bool):countB n may = !(!II n||(decide (n>0) && !may)):=by
 unfold countB;cases hw:II n
 .rfl
 .have h0:0<=n:=by
   unfold II at hw; simp at hw; exact hw.1
  cases may
  .have:(n==0) = !decide (n>0):=by rw[Bool.eq_iff_iff]; simp; omega
   rw[this]; cases decide (n>0)<;>rfl
  .cases decide (n>0)<;>rfl
set_option maxHeartbeats 1000000 in
theorem AEA (G:Nat->AV)(m:Mo)(v:Cvr)(hm:MoOk m)(hv:CvOk v)(h:Hp):PCall (En G) 39 [.agg (D6 m),.agg (ER v)] h (.bool (GK m v)):=by
 refine ACalls.pure0 rfl ?_;have hm1:=hm.np;have hm2:=hm.nc;refine acN Tryz.func39 rfl ?_;show awp _ _ _ _ _ (EN _ [.tmp 4] _);have t:=TwoV.mk' h m v;simp -implicitDefEqProofs only[BC,BA,A8,AY,BB,AO,AQ,AL,BD,AX,AC,AA,AZ,AU,BM,A7,FU,BQ,BZ,BF,BN,↓reduceIte,jA,jB,jC,enP,bxM,bxV]
 generalize h++[ABlk.live 2 [D6 m]]++[ABlk.live 4 [ER v]]=H at t|-
 generalize (h++[ABlk.live 2 [D6 m]]).length=vb at t|-
 have hlp:m.pts.length≠v.pts.length->KA okP m.pts v.pts=false:=fun hne=>by
  rw[<-qN]; exact fun e=>hne (NR e)
 have hlc:m.crs.length≠v.crs.length->KA (okC m) m.crs v.crs=false:=fun hne=>by
  rw[<-qN]; exact fun e=>hne (NR e)
 simp -implicitDefEqProofs only[AY,AO,AQ,AL,BD,AX,AC,AA,AZ,BX,CB,BU,AB,jD,jE,jF,↓reduceIte,jB,jC,ldM t.gm];refine(PM G m hm _).use ?_;simp -implicitDefEqProofs only[AY,BL,BV,CO,AO,AQ,AL,BD,AX,AC,AA,AZ,AU,BH,BG,BR,AB,EK,↓reduceIte,jB,jC,enP,bne];cases h1:(EU m==0)
 .simp -implicitDefEqProofs only[BC,BA,BK,BI,A8,CP,CG,DI,AY,BB,BL,BV,CO,F7,AO,AQ,AL,BD,AX,AC,AA,EX,AZ,AU,BM,BG,A7,CQ,DY,↓reduceIte,jA,jB,jC]
  exact⟨by unfold GK; rw[h1]; rfl,t.hx⟩
 have hg:=LX (beq_iff_eq.1 h1);simp -implicitDefEqProofs only[AY,BL,BV,CO,ES,AO,AQ,AL,BD,AX,AC,AA,AZ,AU,BM,BG,CQ,DX,BQ,BR,BJ,D7,AB,EK,↓reduceIte,jA,jL,jB,jT,jC,enP,QS,IR,XI,L8,t.m0,t.l0,jI,bne];cases h2:((v.pts.length:Int)==(m.pts.length:Int))
 .simp -implicitDefEqProofs only[BC,BA,BK,BI,A8,CP,CG,DI,AY,BB,BL,BV,CO,F7,AO,AQ,AL,BD,AX,AC,AA,EX,AZ,AU,BM,BG,A7,CQ,DY,↓reduceIte,jA,jB,jC]
  have:=hlp (by simp at h2; omega);exact⟨by unfold GK; rw[this]; simp,t.hx⟩
 have h2':v.pts.length=m.pts.length:=by simp at h2; omega
 simp -implicitDefEqProofs only[AY,BL,BV,CO,ES,AO,AQ,AL,BD,AX,AC,AA,AZ,AU,BM,BG,CQ,DX,BQ,BR,BJ,D7,AB,EK,↓reduceIte,jA,jG,jB,jT,jC,enP,VL,J4,XI,KX,t.m1,t.l1,jI,bne];cases h3:((v.crs.length:Int)==(m.crs.length:Int))
 .simp -implicitDefEqProofs only[BC,BA,BK,BI,A8,CP,CG,DI,AY,BB,BL,BV,CO,F7,AO,AQ,AL,BD,AX,AC,AA,EX,AZ,AU,BM,BG,A7,CQ,DY,↓reduceIte,jA,jB,jC]
  have:=hlc (by simp at h3; omega);exact⟨by unfold GK; rw[this]; simp,t.hx⟩
 have h3':v.crs.length=m.crs.length:=by simp at h3; omega
 simp -implicitDefEqProofs only[BL,BV,CO,ES,AO,AQ,AL,BD,AX,AC,AA,AZ,BX,BQ,BJ,CB,BU,AB,jD,jE,jF,↓reduceIte,jA,jG,jB,jT,jC,enP,TU,t.l2];refine(UY G _ _).use ?_;simp -implicitDefEqProofs only[AY,BL,BV,CO,ES,AO,AQ,AL,BD,AX,AC,AA,AZ,AU,BM,BG,CQ,DX,IE,AB,FK,↓reduceIte,jA,jB,jC];cases h4:II v.sam
 .simp -implicitDefEqProofs only[BC,BA,BK,BI,A8,CP,CG,DI,AY,BB,BL,BV,CO,F7,AO,AQ,AL,BD,AX,AC,AA,EX,AZ,AU,BM,A7,CQ,DY,↓reduceIte,jA,jB,jC]
  exact⟨by unfold GK; rw[h4]; simp,t.hx⟩
 simp -implicitDefEqProofs only[BL,BV,CO,ES,AO,AQ,AL,BD,AX,AC,AA,AZ,BX,BQ,BJ,CB,BU,AB,jD,jE,jF,↓reduceIte,jA,jG,jB,jT,jC,enP,U6,t.l3];refine(UY G _ _).use ?_;simp -implicitDefEqProofs only[BI,A8,AY,BB,BL,BV,CO,ES,AO,AQ,AL,BD,AX,AC,AA,AZ,AU,BM,CQ,DX,IE,AB,FK,↓reduceIte,jA,jB,jC];cases h5:II v.ill
 .simp -implicitDefEqProofs only[BC,BA,BK,A8,CP,CG,DI,AY,BB,AO,AQ,AL,BD,AX,AC,AA,AU,BM,A7,↓reduceIte,jB,jC]
  exact⟨by unfold GK; rw[h5]; simp,t.hx⟩
 have hfb:GK m v=(KA okP m.pts v.pts&&KA (okC m) m.crs v.crs):=by unfold GK; rw[h1,h4,h5]; simp
 rw[hfb];simp -implicitDefEqProofs only[BC,BP,BA,BO,A8,DT,AY,BB,AO,AQ,AL,BD,AX,AC,AU,BH,A7,jB,jT,jC];refine GN 0 (fun F H'=>F 2=.ptr h.length 0 0∧F 3=.ptr vb 0 0∧H'=H∧KA okP m.pts v.pts=true) (fun F H'=>F 4=.bool false∧H'=H∧KA okP m.pts v.pts=false) ?_ ?_ ?_
 .refine DK (fun n F H'=>∃i,n+i=m.pts.length∧F 2=.ptr h.length 0 0∧F 3=.ptr vb 0 0∧F 5=.int .i64 (i:Nat)∧H'=H∧KA okP m.pts v.pts=KA okP (m.pts.drop i) (v.pts.drop i)) m.pts.length ⟨0,by simp,by simp -implicitDefEqProofs only[AA,↓reduceIte,jA],by simp -implicitDefEqProofs only[AA,↓reduceIte,jA],by simp -implicitDefEqProofs only[AA,↓reduceIte]; rfl,rfl,rfl⟩ ?_
  rintro n F H' ⟨i,hi,f2,f3,f5,rfl,hf⟩;simp -implicitDefEqProofs only[BC,BA,BI,A8,AY,BB,AO,AQ,AL,BD,AX,AC,AA,AZ,BG,BQ,BR,BJ,D7,AB,DC,↓reduceIte,jA,jL,jB,jC,enP,QS,IR,f2,f5,t.m0,jI];refine CU (fun hc=>?_) (fun hc=>?_)
  .have hi':i<m.pts.length:=by simpa using hc
   have hil:i<v.pts.length:=by omega
   rw[XA okP m.pts v.pts i hi' hil] at hf;have hxl:=hv.eachP _ (jS hil);simp -implicitDefEqProofs only[BC,BP,BO,A8];refine EZ (by kernel_rfl) ?_;simp -implicitDefEqProofs only[FZ,ED,DN,E8,EF,FO,FB,IY,D9,EE,IC,BI,A8,AO,AA,AZ,BQ,BR,BJ,CE,D7,AB,EK,↓reduceIte,jA,jK,jL,jG,jB,enP,SS,IR,N7,L8,RQ,JB,JA,f2,f3,f5,t.m0,t.l0,DU hil,DU hi',DF KC hil,NE,DF SG hi',NS,jI];refine CU (fun h6=>?_) (fun h6=>?_)
   .simp -implicitDefEqProofs only[BC,BA,BK,A8,CP,EG,NG,FQ,AY,BB,AO,AQ,AL,BD,AX,AC,AA,AU,BM,A7,↓reduceIte,jB,jC]
    have:okP m.pts[i] v.pts[i]=false:=by
     have:(v.pts[i].l.length==m.pts[i].bins.length)=false:=by
      rw[beq_eq_false_iff_ne]; intro e; simp [e] at h6
     unfold okP; rw[this]; rfl
    exact⟨trivial,trivial,by rw[hf,this]; rfl⟩
   have hbl:v.pts[i].l.length=m.pts[i].bins.length:=by simp at h6; omega
   have hok:okP m.pts[i] v.pts[i]=PH (fun k=>kindOf m.pts[i] k==0) 0 v.pts[i].l:=by
    unfold okP; rw[beq_iff_eq.2 hbl]; rfl
   simp -implicitDefEqProofs only[BC,BP,BA,BO,A8,AY,BB,AO,AQ,AL,BD,AX,AC,AU,BH,A7,jB,jC];refine GN 2 (fun F' H=>F' 2=.ptr h.length 0 0∧F' 3=.ptr vb 0 0∧F' 5=.int .i64 (i:Nat)∧H=H'∧okP m.pts[i] v.pts[i]=true) (fun F' H=>F' 4=.bool false∧H=H'∧okP m.pts[i] v.pts[i]=false) ?_ ?_ ?_
   .refine DK (fun n F' H=>∃k,n+k=v.pts[i].l.length∧F' 2=.ptr h.length 0 0∧F' 3=.ptr vb 0 0∧F' 5=.int .i64 (i:Nat)∧F' 6=.int .i64 (k:Nat)∧H=H'∧okP m.pts[i] v.pts[i]=PH (fun k=>kindOf m.pts[i] k==0) k (v.pts[i].l.drop k)) v.pts[i].l.length ⟨0,by simp,by simp -implicitDefEqProofs only[AA,↓reduceIte,jA,f2],by simp -implicitDefEqProofs only[AA,↓reduceIte,jA,f3],by simp -implicitDefEqProofs only[AA,↓reduceIte,jA,f5],by simp -implicitDefEqProofs only[AA,↓reduceIte]; rfl,rfl,hok⟩ ?_
    clear f2 f3 f5;rintro n' F H' ⟨k,hk,f2,f3,f5,f6,rfl,hr⟩;simp -implicitDefEqProofs only[BC,BA,BI,A8,AY,BB,AO,AQ,AL,BD,AX,AC,AA,AZ,BG,BQ,BR,BJ,CE,D7,AB,DC,↓reduceIte,jA,jL,jB,jC,enP,N7,L8,JA,f3,f5,f6,t.l0,DU hil,DF KC hil,NE,jI];refine CU (fun hc=>?_) (fun hc=>?_)
    .have hk':k<v.pts[i].l.length:=by simpa using hc
     have hkb:k<m.pts[i].bins.length:=by omega
     have hkd:kindOf m.pts[i] k=(m.pts[i].bins[k]).kind:=by unfold kindOf; rw[jU hkb]
     rw[WT _ _ _ hk',hkd,AEP] at hr;simp -implicitDefEqProofs only[BC,BP,BA,BO,A8,AY,BB,AO,AQ,AL,BD,AX,AC,AA,AZ,BX,BG,A7,BQ,BJ,CE,CB,BU,AB,jD,jE,jF,↓reduceIte,jA,jL,jB,jC,enP,N7,L8,JF,f3,f5,f6,t.l0,DU hil,DF KC hil,NE,DU hk',DF ag3 hk',encI0];refine(UY G _ _).use ?_;simp -implicitDefEqProofs only[AY,BL,BV,CO,AO,AQ,AL,BD,AX,AC,AA,AZ,BG,IE,AB,FK,↓reduceIte,jB,jC];cases hw:II v.pts[i].l[k]
     .simp -implicitDefEqProofs only[BC,BA,BK,BI,A8,CP,EG,NG,FQ,DI,AY,BB,BL,BV,CO,F7,SI,AO,AQ,AL,BD,AX,AC,AA,EX,AZ,AU,BM,A7,CQ,DY,↓reduceIte,jA,jB,jC]
      exact⟨trivial,trivial,by rw[hr,hw]; rfl⟩
     rw[hw] at hr;simp -implicitDefEqProofs only[BL,BV,CO,ES,AO,AQ,AL,BD,AX,AC,AA,AZ,AU,BH,BG,BR,AB,FV,↓reduceIte,jA,jB,jT,jC,enP];cases hp:decide (v.pts[i].l[k]>0)
     .simp -implicitDefEqProofs only[BA,BO,BI,A8,EJ,EQ,DT,AY,BB,BL,BV,CO,ES,IX,AO,AQ,AL,BD,AX,AC,AA,EX,AZ,AU,BH,BM,BG,A7,CQ,DX,BR,AB,CZ,↓reduceIte,jA,jB,jC,enP,f6,wrap_succ (show k<9223372036854775807 by omega)]
      exact⟨n'-1,by omega,k+1,by omega,f2,f3,f5,rfl,trivial,by rw[hr,hp]; rfl⟩
     rw[hp] at hr;simp -implicitDefEqProofs only[BI,A8,AY,BB,BL,BV,CO,F9,ES,AO,AQ,AL,BD,AX,AC,AA,AZ,AU,BH,BM,BG,CQ,DY,DX,BQ,BR,BJ,CE,AB,EK,↓reduceIte,jA,jL,jG,jB,jC,enP,SS,IR,YD,JB,MP,f2,f5,f6,t.m0,DU hi',DF SG hi',NS,DU hkb,DF ag3 hkb,UK,bne];cases hz:(m.pts[i].bins[k].kind==0)
     .simp -implicitDefEqProofs only[BC,BA,BK,A8,CP,EG,NG,FQ,DI,AY,BB,AO,AQ,AL,BD,AX,AC,AA,AU,BM,A7,↓reduceIte,jB,jC]
      exact⟨trivial,trivial,by rw[hr,hz]; rfl⟩
     .simp -implicitDefEqProofs only[BA,BO,A8,EJ,EQ,DT,AY,BB,AO,AQ,AL,BD,AX,AC,AA,AZ,AU,BH,BG,A7,BR,AB,CZ,↓reduceIte,jA,jB,jT,jC,enP,f6,wrap_succ (show k<9223372036854775807 by omega)]
      exact⟨n'-1,by omega,k+1,by omega,f2,f3,f5,rfl,trivial,by rw[hr,hz]; rfl⟩
    .have hk':¬k<v.pts[i].l.length:=by simpa using hc
     simp -implicitDefEqProofs only[DJ,EI,J3,ET,AA,↓reduceIte,jA];exact⟨f2,f3,f5,trivial,by rw[hr,jW (by omega)]; rfl⟩
   .rintro F' H' ⟨g2,g3,g5,rfl,hr⟩
    simp -implicitDefEqProofs only[BA,A8,EJ,EW,EQ,AY,BB,AO,AQ,AL,BD,AX,AC,AA,AZ,AU,BH,BG,A7,BR,AB,CZ,↓reduceIte,jA,jB,jC,enP,g5,wrap_succ (show i<9223372036854775807 by omega)];exact⟨n-1,by omega,i+1,by omega,g2,g3,rfl,trivial,by rw[hf,hr]; rfl⟩
   .rintro F' H' ⟨g4,rfl,hr⟩
    simp -implicitDefEqProofs only[CP,EG,NG,FQ,g4];exact⟨trivial,trivial,by rw[hf,hr]; rfl⟩
  .have hi':¬i<m.pts.length:=by simpa using hc
   simp -implicitDefEqProofs only[DJ,EI,J3,ET,AA,↓reduceIte,jA];exact⟨f2,f3,trivial,by rw[hf,ZI okP _ _ i (by omega) (by omega)]⟩
 .rintro F H' ⟨f2,f3,rfl,hfp⟩
  rw[hfp,Bool.true_and];simp -implicitDefEqProofs only[BC,BP,BA,A8,EW,AY,BB,AO,AQ,AL,BD,AX,AC,AU,BH,A7,↓reduceIte,jB,jC];refine DK (fun n F H=>∃i,n+i=m.crs.length∧F 2=.ptr h.length 0 0∧F 3=.ptr vb 0 0∧F 8=.int .i64 (i:Nat)∧H=H'∧KA (okC m) m.crs v.crs=KA (okC m) (m.crs.drop i) (v.crs.drop i)) m.crs.length ⟨0,by simp,by simp -implicitDefEqProofs only[AA,↓reduceIte,jA,f2],by simp -implicitDefEqProofs only[AA,↓reduceIte,jA,f3],by simp -implicitDefEqProofs only[AA,↓reduceIte]; rfl,rfl,rfl⟩ ?_;clear f2 f3;rintro n F H' ⟨i,hi,f2,f3,f8,rfl,hf⟩;simp -implicitDefEqProofs only[BC,BA,BI,A8,AY,BB,AO,AQ,AL,BD,AX,AC,AA,AZ,BG,BQ,BR,BJ,D7,AB,DC,↓reduceIte,jA,jG,jB,jC,enP,VL,J4,f2,f8,t.m1,jI];refine CU (fun hc=>?_) (fun hc=>?_)
  .have hi':i<m.crs.length:=by simpa using hc
   have hil:i<v.crs.length:=by omega
   rw[XA (okC m) m.crs v.crs i hi' hil] at hf;have hxl:=hv.eachC _ (jS hil);have hcg:=hg.crs _ (jS hi');have hfs:=hg.full.szs hcg.here;have htwo:=hcg.two;have hfour:=hcg.four;have hpr:=hcg.prod;have hnum:=hcg.num;have hmin:min (GL (szs m m.crs[i].pts):Int) 1000=(GL (szs m m.crs[i].pts):Int):=by omega
   simp -implicitDefEqProofs only[BC,BP,BO,A8];refine EZ (by kernel_rfl) ?_;simp -implicitDefEqProofs only[FZ,ED,DN,EF,FO,FB,IY,D9,EE,IC,GH,F8,AO,AA,AZ,BX,BQ,BR,BJ,CE,D7,AB,jD,jE,jF,↓reduceIte,jA,jK,jG,jB,enP,V7,J4,N7,KX,JA,f2,f3,f8,t.m1,t.l1,ldM t.gm,DU hil,DU hi',DF KC hil,NE,FM ZV XH J7 hi',jI];refine⟨_,XD G m m.crs[i] _ hcg.here hg.full (by omega),?_⟩;rw[hmin]
   try simp -implicitDefEqProofs only[DN,E8,BI,A8,AA,AZ,AB,EK,↓reduceIte]
   refine CU (fun h6=>?_) (fun h6=>?_)
   .simp -implicitDefEqProofs only[BC,BA,BK,A8,CP,EG,FQ,CG,AY,BB,AO,AQ,AL,BD,AX,AC,AA,AU,BM,A7,↓reduceIte,jB,jC]
    have:okC m m.crs[i] v.crs[i]=false:=by
     have:(v.crs[i].l.length==GL (szs m m.crs[i].pts))=false:=by
      rw[beq_eq_false_iff_ne]; intro e; simp [e] at h6
     unfold okC; rw[this]; rfl
    exact⟨by rw[hf,this]; rfl,t.hx⟩
   have hbl:v.crs[i].l.length=GL (szs m m.crs[i].pts):=by simp at h6; omega
   have hok:okC m m.crs[i] v.crs[i]=PH (fun k=>QT m m.crs[i] (NF (szs m m.crs[i].pts) k)) 0 v.crs[i].l:=by
    unfold okC; rw[beq_iff_eq.2 hbl]; rfl
   simp -implicitDefEqProofs only[BC,BP,BA,BO,A8,AY,BB,AO,AQ,AL,BD,AX,AC,AU,BH,A7,jB,jC];refine GN 6 (fun F' H=>F' 2=.ptr h.length 0 0∧F' 3=.ptr vb 0 0∧F' 8=.int .i64 (i:Nat)∧H=H'∧okC m m.crs[i] v.crs[i]=true) (fun F' H=>F' 4=.bool false∧H=H'∧okC m m.crs[i] v.crs[i]=false) ?_ ?_ ?_
   .refine DK (fun n F' H=>∃k,n+k=v.crs[i].l.length∧F' 2=.ptr h.length 0 0∧F' 3=.ptr vb 0 0∧F' 8=.int .i64 (i:Nat)∧F' 9=.int .i64 (k:Nat)∧H=H'∧okC m m.crs[i] v.crs[i]=PH (fun k=>QT m m.crs[i] (NF (szs m m.crs[i].pts) k)) k (v.crs[i].l.drop k)) v.crs[i].l.length ⟨0,by simp,by simp -implicitDefEqProofs only[AA,↓reduceIte,jA,f2],by simp -implicitDefEqProofs only[AA,↓reduceIte,jA,f3],by simp -implicitDefEqProofs only[AA,↓reduceIte,jA,f8],by simp -implicitDefEqProofs only[AA,↓reduceIte]; rfl,rfl,hok⟩ ?_
    clear f2 f3 f8;rintro n' F H' ⟨k,hk,f2,f3,f8,f9,rfl,hr⟩;simp -implicitDefEqProofs only[BC,BA,BI,A8,AY,BB,AO,AQ,AL,BD,AX,AC,AA,AZ,BG,BQ,BR,BJ,CE,D7,AB,DC,↓reduceIte,jA,jG,jB,jC,enP,N7,KX,JA,f3,f8,f9,t.l1,DU hil,DF KC hil,NE,jI];refine CU (fun hc=>?_) (fun hc=>?_)
    .have hk':k<v.crs[i].l.length:=by simpa using hc
     rw[WT _ _ _ hk',AEP] at hr;simp -implicitDefEqProofs only[BC,BP,BA,BO,A8,AY,BB,AO,AQ,AL,BD,AX,AC,AA,AZ,BG,A7,BQ,BJ,CE,AB,↓reduceIte,jA,jG,jB,jC,enP,N7,KX,JF,f3,f8,f9,t.l1,DU hil,DF KC hil,NE,DU hk',DF ag3 hk',encI0];refine EZ (by kernel_rfl) ?_;simp -implicitDefEqProofs only[FZ,ED,DN,EF,FO,AC2,GH,F8,AO,AA,AZ,BX,IE,jD,jE,jF,↓reduceIte,jK,jB];refine⟨_,UY G _ _,?_⟩
     try simp -implicitDefEqProofs only[FZ,ED,DN,EF,FN,GI,FO,CO,AO,AA,AZ,AB,FK,↓reduceIte,jK,jB]
     cases hw:II v.crs[i].l[k]
     .simp -implicitDefEqProofs only[FZ,ED,DN,E8,EF,FN,GI,Z4,A1N,I5,BC,BA,BK,BI,A8,CP,EG,NG,FQ,DI,AY,BB,CO,AO,AQ,AL,BD,AX,AC,AA,EX,AZ,AU,BM,A7,CQ,DY,↓reduceIte,jA,jK,jB,jC]
      exact⟨trivial,trivial,by rw[hr,hw]; rfl⟩
     rw[hw] at hr;simp -implicitDefEqProofs only[FZ,ED,DN,FN,GI,UO,FO,IY,CO,AO,AA,AZ,AU,BH,BR,AB,FV,↓reduceIte,jA,jK,jB,jT,enP];cases hp:decide (v.crs[i].l[k]>0)
     .simp -implicitDefEqProofs only[FZ,ED,DN,E8,EF,FN,GI,UO,AB4,I5,BA,BO,BI,A8,EJ,EQ,DT,AY,BB,CO,AO,AQ,AL,BD,AX,AC,AA,EX,AZ,AU,BH,BM,BG,A7,CQ,DX,BR,AB,CZ,↓reduceIte,jA,jK,jB,jC,enP,f9,wrap_succ (show k<9223372036854775807 by omega)]
      exact⟨n'-1,by omega,k+1,by omega,f2,f3,f8,rfl,trivial,by rw[hr,hp]; rfl⟩
     rw[hp] at hr;simp -implicitDefEqProofs only[FZ,ED,DN,FN,GI,VI,FO,FB,AC2,D9,EE,GH,F8,CO,AO,AA,AZ,BX,BQ,IE,BJ,CE,AB,jD,jE,jF,↓reduceIte,jA,jK,jG,jB,enP,V7,J4,f2,f8,f9,t.m1,ldM t.gm,DU hi',FM ZV XH J7 hi'];refine⟨_,AFV G m m.crs[i] k _ hcg.here hg.full (by omega) (by omega) (by omega),?_⟩
     try simp -implicitDefEqProofs only[]
     refine⟨_,AEO G m m.crs[i] _ _ _ hcg.here (UA _ _ fun n hn=>(hfs n hn).1) (by omega) (by omega),?_⟩
     try simp -implicitDefEqProofs only[FZ,ED,DN,E8,EF,FN,GI,UO,I5,BI,A8,CO,AO,AA,AZ,AU,BM,CQ,DY,DX,AB,FK,↓reduceIte,jA,jK,jB]
     cases hz:QT m m.crs[i] (NF (szs m m.crs[i].pts) k)
     .simp -implicitDefEqProofs only[BC,BA,BK,A8,CP,EG,NG,FQ,DI,AY,BB,AO,AQ,AL,BD,AX,AC,AA,AU,BM,A7,↓reduceIte,jB,jC]
      exact⟨trivial,trivial,by rw[hr,hz]; rfl⟩
     .simp -implicitDefEqProofs only[BA,BO,A8,EJ,EQ,DT,AY,BB,AO,AQ,AL,BD,AX,AC,AA,AZ,AU,BH,BG,A7,BR,AB,CZ,↓reduceIte,jA,jB,jT,jC,enP,f9,wrap_succ (show k<9223372036854775807 by omega)]
      exact⟨n'-1,by omega,k+1,by omega,f2,f3,f8,rfl,trivial,by rw[hr,hz]; rfl⟩
    .have hk':¬k<v.crs[i].l.length:=by simpa using hc
     simp -implicitDefEqProofs only[DJ,EI,J3,ET,AA,↓reduceIte,jA];exact⟨f2,f3,f8,trivial,by rw[hr,jW (by omega)]; rfl⟩
   .rintro F' H' ⟨g2,g3,g8,rfl,hr⟩
    simp -implicitDefEqProofs only[BA,A8,EJ,EW,EQ,AY,BB,AO,AQ,AL,BD,AX,AC,AA,AZ,AU,BH,BG,A7,BR,AB,CZ,↓reduceIte,jA,jB,jC,enP,g8,wrap_succ (show i<9223372036854775807 by omega)];exact⟨n-1,by omega,i+1,by omega,g2,g3,rfl,trivial,by rw[hf,hr]; rfl⟩
   .rintro F' H' ⟨g4,rfl,hr⟩
    simp -implicitDefEqProofs only[CP,EG,FQ,CG,g4];exact⟨by rw[hf,hr]; rfl,t.hx⟩
  .have hi':¬i<m.crs.length:=by simpa using hc
   simp -implicitDefEqProofs only[BC,BA,BK,DJ,A8,EI,EW,ET,CG,AY,BB,AO,AQ,AL,BD,AX,AC,AA,AU,BM,A7,↓reduceIte,jB,jC];exact⟨by rw[hf,ZI (okC m) _ _ i (by omega) (by omega)],t.hx⟩
 .rintro F H' ⟨f4,rfl,hfp⟩
  simp -implicitDefEqProofs only[CP,EG,CG,f4];exact⟨by rw[hfp]; rfl,t.hx⟩
theorem AMU (G:Nat->AV)(xs:List Int)(m:SM)(fid:FuncId)(caps:List AV)(p:Int->Bool)(h:Hp)(hl:xs.length<=1099511627776)
  (hf:∀r,PCall (En G) fid (.int .i64 r::caps) h (.bool (p r))) :
  PCall (En G) 204 [.sl m 1 (xs.map encI),.fn (.func fid) [] caps] h (.int .i64 (match xs.findIdx? p with|some i=>(i:Int)|none => -1)):=by
 refine acN Tryz.func204 rfl ?_;show awp _ _ _ _ _ (EN _ [.tmp 4] _);simp -implicitDefEqProofs only[BC,BP,BA,A8,AY,BB,AO,AQ,AL,BD,AX,AC,AA,AZ,AU,BH,BG,A7,D7,AB,BF,↓reduceIte,jA,jB,jC,enP,JA,jI];refine DK (fun n F H=>∃k,n+k=xs.length∧F 0=.sl m 1 (xs.map encI)∧F 1=.fn (.func fid) [] caps∧F 7=.int .i64 xs.length∧F 8=.int .i64 (k:Nat)∧H=h∧(xs.take k).all (fun r => !p r)=true) xs.length ⟨0,by simp,rfl,rfl,rfl,rfl,rfl,rfl⟩ ?_;rintro n F H ⟨k,hk,f0,f1,f7,f8,rfl,hin⟩;simp -implicitDefEqProofs only[BC,BA,BI,A8,AY,BB,AO,AQ,AL,BD,AX,AC,AA,AZ,BR,AB,DC,↓reduceIte,jB,jC,enP,f0,f1,f7,f8,jI];refine CU (fun hc=>?_) (fun hc=>?_)
 .have hc':k<xs.length:=by simpa using hc
  simp -implicitDefEqProofs only[BC,BP,BA,BO,A8,AY,BB,AO,AQ,AL,BD,AX,AC,AA,AZ,BG,A7,BQ,CE,CB,BU,AB,jD,jE,zY,List.cons_append,↓reduceIte,jA,jB,jC,enP,JF,f0,f1,f7,f8,DU hc',DF ag3 hc',encI0];refine(hf _).use ?_;simp -implicitDefEqProofs only[BI,A8,BB,AC,AA,AZ,↓reduceIte];refine CU (fun hb=>?_) (fun hb=>?_)
  .simp -implicitDefEqProofs only[BC,BA,BK,A8,CP,EG,FQ,CG,AY,BB,AO,AQ,AL,BD,AX,AC,AA,AZ,BG,A7,↓reduceIte,jA,jB,jC]
   refine⟨?_,trivial⟩
   rw[qU.2 ⟨hc',hb,fun j hj=>by
    rw[List.all_eq_true] at hin;have:=hin xs[j] (by rw[List.mem_take_iff_getElem]; exact⟨j,by omega,rfl⟩)
    simpa using this⟩]
  .simp -implicitDefEqProofs only[BA,BO,A8,EJ,EQ,AY,BB,AO,AQ,AL,BD,AX,AC,AA,AZ,AU,BH,BG,BR,AB,CZ,↓reduceIte,jA,jB,jC,enP,f8,wrap_succ (show k<9223372036854775807 by omega)]
   refine⟨n-1,by omega,k+1,by omega,f0,f1,f7,rfl,trivial,?_⟩;rw[zL hc',List.all_append,hin];simp only[List.all_cons,List.all_nil,hb]; rfl
 .have hc':¬k<xs.length:=by simpa using hc
  simp -implicitDefEqProofs only[BC,BA,BK,DJ,A8,EI,EW,ET,CG,AY,BB,AO,AQ,AL,BD,AX,AC,AA,AU,BH,A7,↓reduceIte,jB,jC];refine⟨?_,trivial⟩;rw[jX (by omega)] at hin;rw[qV.2 (by simpa using hin)]
theorem AFN (G:Nat->AV)(xs:List Int)(m:SM)(fid:FuncId)(caps:List AV)(p:Int->Bool)(h:Hp)(hl:xs.length<=1099511627776)
  (hf:∀r,PCall (En G) fid (.int .i64 r::caps) h (.bool (p r))) :
  PCall (En G) 155 [.sl m 1 (xs.map encI),.fn (.func fid) [] caps] h (.bool (xs.any p)):=by
 refine acN Tryz.func155 rfl ?_;show awp _ _ _ _ _ (EN _ [.tmp 4] _);simp -implicitDefEqProofs only[BC,BA,A8,AY,BB,AO,AQ,AL,BD,AX,AC,AA,AZ,AU,BX,BM,BG,A7,CB,BU,BF,BN,jD,jE,jF,↓reduceIte,jA,jB,jC,enP];refine(AMU G xs m fid caps p h hl hf).use ?_;simp -implicitDefEqProofs only[BK,A8,CG,AY,BB,AO,AQ,AL,BD,AX,AC,AA,AZ,AU,BH,A7,BR,AB,G5,↓reduceIte,jB,jC,enP];refine⟨?_,trivial⟩
 cases hx:xs.findIdx? p with
 | some i =>
   obtain⟨h1,h2,_⟩:=qU.1 hx;have:xs.any p=true:=List.any_eq_true.2 ⟨xs[i],by simp,h2⟩;simp [this]
 | none =>
   have:xs.any p=false:=by
    rw[qV] at hx;rw[wB]; intro x hx2; simp [hx x hx2]
   simp [this]
theorem AXX {h:Hp}{b:Nat}{m:Mo}(hb:h[b]?=some (.live 2 [D6 m])):EH Tryz.prog h 22 (.ptr b 0 0)=some (.sl m.pm 6 (m.pts.map GM)):=by rw[DW WN hb (row:=D6 m) rfl,QA]
theorem A00 {h:Hp}{b:Nat}{m:Mo}(hb:h[b]?=some (.live 2 [D6 m])):EH Tryz.prog h 23 (.ptr b 0 1)=some (.sl m.cm 3 (m.crs.map GG)):=by rw[DW AA5 hb (row:=D6 m) rfl,UI]
theorem AMK (G:Nat->AV)(m:Mo)(b:Nat)(p:Int)(h:Hp)(hb:h[b]?=some (.live 2 [D6 m])):PCall (En G) 224 [.int .i64 p,.ptr b 0 0] h (.bool (decide (p<0)||decide (p≥(m.pts.length:Int)))):=by
 refine acN Tryz.func224 rfl ?_;show awp _ _ _ _ _ (EN _ [.tmp 3] _);simp -implicitDefEqProofs only[BC,BA,A8,AY,BB,BL,BV,CO,AO,AQ,AL,BD,AX,AC,AA,AZ,AU,BH,BM,BG,A7,BR,AB,DC,BF,↓reduceIte,jA,jB,jC,enP];cases ha:decide (p<0)
 .simp -implicitDefEqProofs only[Bool.false_or,BK,A8,CG,AY,BB,BL,BV,CO,ES,AO,AQ,AL,BD,AX,AC,AA,AZ,AU,BM,BG,A7,CQ,DX,BQ,BR,BJ,D7,AB,G5,BF,BN,↓reduceIte,jA,jL,jB,jC,enP,QS,IR,AXX hb,jI]
  exact⟨by simp,trivial⟩
 .simp -implicitDefEqProofs only[Bool.true_or,BK,A8,CG,AY,BB,BL,BV,CO,F7,AO,AQ,AL,BD,AX,AC,AA,EX,AZ,AU,BM,A7,CQ,DY,↓reduceIte,jA,jB,jC]
  exact⟨by simp,trivial⟩
theorem AUA {m:Mo}{l:List Int}(hh:Here m l):(l.any fun p=>decide (p<0)||decide (p≥(m.pts.length:Int)))=false:=by
 rw[wB];intro p hp;have:=hh p hp;simp; omega
theorem ABB (G:Nat->AV)(m:Mo)(i:Nat)(hi:i<m.crs.length)(hg:CrGood m m.crs[i])(h:Hp):PCall (En G) 184 [.agg (D6 m),.int .i64 (i:Int)] h (.bool true):=by
 refine ACalls.pure0 rfl ?_;have hfour:=hg.four;refine acN Tryz.func184 rfl ?_;show awp _ _ _ _ _ (EN _ [.tmp 4] _);have d0:decide ((i:Int)<0)=false:=by simp
 have d1:decide ((i:Int)≥(m.crs.length:Int))=false:=by simp; omega
 simp -implicitDefEqProofs only[BC,BA,BO,BI,A8,DT,AY,BB,BL,BV,CO,ES,AO,AQ,AL,BD,AX,AC,AA,AZ,AU,BX,BH,BM,BG,A7,CQ,DX,FU,BQ,BR,I8,BJ,CE,D7,CB,BU,BZ,AB,DC,G5,BF,BN,jD,jE,jF,↓reduceIte,jA,jG,jB,jC,enP,V7,VL,J4,KI,bxM,d0,DL AA5,UI,jI,d1,DU hi,DF KC hi,ABT];refine(AFN G m.crs[i].pts m.crs[i].pm 224 _ _ _ (by omega) fun r=>AMK G m _ r _ (CY _ _)).use ?_;simp -implicitDefEqProofs only[BK,A8,CG,AY,BB,AO,AQ,AL,BD,AX,AC,AA,AZ,A7,IE,AB,FK,↓reduceIte,jB,jC,AUA hg.here];exact⟨trivial,_,rfl⟩
theorem U9 (G:Nat->AV)(m:Mo)(i:Nat)(hi:i<m.crs.length)(hg:CrGood m m.crs[i])(h:Hp):PCall (En G) 185 [.agg (D6 m),.int .i64 (i:Int)] h (.sl .any 1 ((szs m m.crs[i].pts).map IG)):=by
 have hfour:=hg.four;have htwo:=hg.two;have hh:=hg.here
 have hp:PCall (En G) 185 [.agg (D6 m),.int .i64 (i:Int)] h (.sl (nm (szs m m.crs[i].pts)) 1 ((szs m m.crs[i].pts).map IG)):=by
  refine MW AQ9 ?_;refine acN Tryz.func185 rfl ?_;show awp _ _ _ _ _ (EN _ [.tmp 4] _);simp -implicitDefEqProofs only[BC,BP,BA,A8,AY,BB,AO,AQ,AL,BD,AX,AC,AA,AZ,AU,BH,IK,BG,A7,FU,BQ,BJ,CE,D7,BZ,AB,BF,BN,↓reduceIte,jA,jG,jB,jC,enP,V7,J4,JA,KI,bxM,DL AA5,UI,DU hi,DF KC hi,ABT,jI];refine DK (fun n F H=>∃k,n+k=m.crs[i].pts.length∧F 2=.ptr h.length 0 0∧F 13=.sl m.crs[i].pm 1 (m.crs[i].pts.map encI)∧F 14=.int .i64 m.crs[i].pts.length∧F 15=.int .i64 (k:Nat)∧H[h.length]?=some (.live 2 [D6 m])∧ext h H∧(∀b,isB (F 5) b->h.length<b)∧outG 1 IG h (szs m (m.crs[i].pts.take k)) (F 5) H) m.crs[i].pts.length ⟨0,by simp,by simp -implicitDefEqProofs only[AA,↓reduceIte,jA],by simp -implicitDefEqProofs only[AA,↓reduceIte,jA],by simp -implicitDefEqProofs only[AA,↓reduceIte,jA],by simp -implicitDefEqProofs only[AA,↓reduceIte]; rfl,CY _ _,(ext.rfl' h).app _,fun b hb=>hb.elim,outG.nil _ _ _ _⟩ ?_;rintro n F H ⟨k,hk,f2,f13,f14,f15,hb,he,hlt,ho⟩;simp -implicitDefEqProofs only[BC,BA,BI,A8,AY,BB,AO,AQ,AL,BD,AX,AC,AA,AZ,BR,AB,DC,↓reduceIte,jB,jC,enP,f14,f15];refine CU (fun hc=>?_) (fun hc=>?_)
  .have hk':k<m.crs[i].pts.length:=by simpa using hc
   obtain⟨s,ls⟩:=hh.ld hk' H;have hzl:(szs m (m.crs[i].pts.take k)).length<8388608:=by unfold szs; simp; omega
   obtain⟨v',H',ha,ho',hkeep,he',hle,hb'⟩:=ho.append TN sz3 XG VN (by omega) hzl he (JL m m.crs[i].pts[k]).length;simp -implicitDefEqProofs only[EY,FT,BC,BP,BA,BO,A8,AY,BB,AO,AQ,AL,BD,AX,AC,AA,AZ,BG,A7,EP,BQ,BJ,CE,D7,GR,BZ,AB,↓reduceIte,jA,jL,jG,jB,jC,enP,SS,IR,RQ,JB,JF,f2,f13,f15,DU hk',DF ag3 hk',encI0,AXX hb,hh.ix hk',ls,jI,ACE];refine HY (v:=v') (h:=H') (by rw[show [[AV.int .i64 ((JL m m.crs[i].pts[k]).length:Int)]]=[IG (JL m m.crs[i].pts[k]).length] from rfl,ha]) ?_;simp -implicitDefEqProofs only[BA,A8,EJ,EQ,AY,BB,AO,AQ,AL,BD,AX,AC,AA,AZ,AU,BH,BG,A7,BR,AB,CZ,↓reduceIte,jA,jB,jC,enP,f15,wrap_succ (show k<9223372036854775807 by omega)];refine⟨n-1,by omega,k+1,by omega,f2,f13,f14,rfl,hkeep _ _ hb (fun e=>by have:=hlt _ e; omega),he',fun b hbb=>?_,?_⟩
   .have:=hb' b hbb; have:=CJ hb; omega
   .rw[AJB m m.crs[i].pts k hk']; exact ho'
  .have hk':¬k<m.crs[i].pts.length:=by simpa using hc
   rw[jX (by omega)] at ho;simp -implicitDefEqProofs only[BC,BA,BK,DJ,A8,EI,EW,ET,CG,AY,BB,AO,AQ,AL,BD,AX,AC,AA,AZ,BG,A7,↓reduceIte,jA,jB,jC];exact⟨he,ho⟩
 have hnm:nm (szs m m.crs[i].pts)=SM.any:=by
  have:=LJ m m.crs[i].pts
  cases hx:szs m m.crs[i].pts with
  | nil=>rw[hx] at this; simp at this; omega
  | cons a l=>rfl
 rw[hnm] at hp;exact hp
theorem ABE (G:Nat->AV)(m:Mo)(i:Nat)(hi:i<m.crs.length)(hg:CrGood m m.crs[i])(hf:Full m)(h:Hp):PCall (En G) 139 [.agg (D6 m),.int .i64 (i:Int)] h (.int .i64 (GL (szs m m.crs[i].pts))):=by
 refine ACalls.pure0 rfl ?_;have hfour:=hg.four;have hs:=hf.szs hg.here;have hsl:=LJ m m.crs[i].pts;have hx:∃x,h++[ABlk.live 2 [D6 m]]=h++x:=⟨_,rfl⟩;refine acN Tryz.func139 rfl ?_;show awp _ _ _ _ _ (EN _ [.tmp 4] _);simp -implicitDefEqProofs only[BC,BA,A8,AY,BB,AO,AQ,AL,BD,AX,AC,AA,AZ,AU,BX,BH,BG,A7,FU,BQ,CB,BU,BZ,AB,BF,BN,jD,jE,jF,↓reduceIte,jA,jB,jC,enP,bxM,ldM (CY h (.live 2 [D6 m]))];refine(ABB G m i hi hg _).use ?_;simp -implicitDefEqProofs only[BC,BA,BO,BI,A8,DT,AY,BB,AO,AQ,AL,BD,AX,AC,AA,AZ,AU,BX,BH,BG,A7,BQ,IE,CB,BU,AB,FK,BF,BN,jD,jE,jF,↓reduceIte,jA,jB,jT,jC,enP,ldM (CY h (.live 2 [D6 m]))];refine(U9 G m i hi hg _).use ?_;simp -implicitDefEqProofs only[BP,A8,AY,BB,AO,AQ,AL,BD,AX,AC,AA,AZ,AU,BH,BG,D7,AB,↓reduceIte,jB,jC,enP,JA,jI]
 generalize szs m m.crs[i].pts=l at hs hsl|-
 have hp:∀k,GL (l.take k)<=16777216:=fun k=>by
  have:=AJ2 (l.take k) 4 (fun n hn=>(hs n (List.mem_of_mem_take hn)).2) (by rw[List.length_take]; omega);simpa using this
 refine DK (fun n F H=>∃k,n+k=l.length∧F 5=.int .i64 (GL (l.take k))∧F 14=.sl .any 1 (l.map IG)∧F 15=.int .i64 l.length∧F 16=.int .i64 (k:Nat)∧H=h++[ABlk.live 2 [D6 m]]) l.length ⟨0,by simp,by simp -implicitDefEqProofs only[AA,↓reduceIte,jA]; rfl,by simp -implicitDefEqProofs only[AA,↓reduceIte,jA],by simp -implicitDefEqProofs only[AA,↓reduceIte,jA],by simp -implicitDefEqProofs only[AA,↓reduceIte]; rfl,rfl⟩ ?_;rintro n F H ⟨k,hk,f5,f14,f15,f16,rfl⟩;simp -implicitDefEqProofs only[BC,BA,BI,A8,AY,BB,AO,AQ,AL,BD,AX,AC,AA,AZ,BR,AB,DC,↓reduceIte,jB,jC,enP,f15,f16];refine CU (fun hc=>?_) (fun hc=>?_)
 .have hk':k<l.length:=by simpa using hc
  have h1:=hp (k+1);rw[RJ l k hk'] at h1
  have hw:IntKind.i64.wrap ((GL (l.take k):Int)*(l[k]:Int))=((GL (l.take (k+1)):Nat):Int):=by
   rw[RJ l k hk',<-Int.natCast_mul,MF (by omega)]
  simp -implicitDefEqProofs only[BC,BP,BA,BO,A8,EJ,EQ,AY,BB,AO,AQ,AL,BD,AX,AC,AA,AZ,AU,BH,BG,A7,BQ,BR,CE,AB,CZ,PZ,↓reduceIte,jA,jB,jC,enP,JF,f5,f14,f16,DU hk',DF ag3 hk',encN0,hw,wrap_succ (show k<9223372036854775807 by omega)];exact⟨n-1,by omega,k+1,by omega,rfl,trivial,f15,rfl,trivial⟩
 .have hk':¬k<l.length:=by simpa using hc
  rw[jX (by omega)] at f5;simp -implicitDefEqProofs only[BC,BA,BK,DJ,A8,EI,EW,ET,CG,AY,BB,AO,AQ,AL,BD,AX,AC,AA,AZ,BG,A7,↓reduceIte,jA,jB,jC,f5];exact⟨trivial,hx⟩
def AQ7:List Nat->List Int->Int->Int
 | n::ns,x::xs,z=>AQ7 ns xs (IntKind.i64.wrap (IntKind.i64.wrap (z*(n:Int))+x))
 | _,_,z=>z
theorem AT7 (ns:List Nat)(z:Int):AQ7 ns [] z=z:=by cases ns<;>rfl
theorem AKI:∀ {ns:List Nat} {l:List Int},MQ ns l=true->∀(k:Nat) (hk:k<l.length) (hp:k<ns.length),0<=l[k]∧l[k]<(ns[k]:Int)
 | n::ns,b::bs,h,k,hk,hp=>by
   simp only[MQ,jV,decide_eq_true_eq] at h
   cases k with
   | zero=>exact h.1
   | succ k=>exact AKI (ns:=ns) h.2 k (by simpa using hk) (by simpa using hp)
 | [],b::bs,h,k,hk,hp=>by simp at hp
 | _,[],h,k,hk,hp=>by simp at hk
theorem AHV (G:Nat->AV)(m:Mo)(i:Nat)(hi:i<m.crs.length)(hg:CrGood m m.crs[i])(l:List Int)(s:SM)(hin:MQ (szs m m.crs[i].pts) l=true)(h:Hp):PCall (En G) 186 [.agg (D6 m),.int .i64 (i:Int),.sl s 1 (l.map encI)] h (.tup [.int .i64 (AQ7 (szs m m.crs[i].pts) l 0),.bool true]):=by
 have hfour:=hg.four;have hsl:=LJ m m.crs[i].pts;have hlen:=P9 hin;refine ACalls.pure 2 (R:=fun v H=>v=.tup [.int .i64 (AQ7 (szs m m.crs[i].pts) l 0),.bool true]∧∃x,H=h++x) ?_ (fun v h' ⟨e,x⟩=>⟨x,by subst e; rfl⟩);have hx:∃x,h++[ABlk.live 2 [D6 m]]=h++x:=⟨_,rfl⟩;refine acN Tryz.func186 rfl ?_;show awp _ _ _ _ _ (EN _ [.tmp 6,.tmp 7] _);simp -implicitDefEqProofs only[BC,BA,A8,AY,BB,AO,AQ,AL,BD,AX,AC,AA,AZ,AU,BX,BH,BM,BG,A7,FU,BQ,CB,BU,BZ,AB,BF,BN,jD,jE,jF,↓reduceIte,jA,jB,jC,enP,bxM,ldM (CY h (.live 2 [D6 m]))];refine(ABB G m i hi hg _).use ?_;simp -implicitDefEqProofs only[BC,BA,BO,BI,A8,DT,AY,BB,AO,AQ,AL,BD,AX,AC,AA,AZ,BX,BG,BQ,IE,CB,BU,AB,FK,BF,BN,jD,jE,jF,↓reduceIte,jA,jB,jT,jC,enP,ldM (CY h (.live 2 [D6 m]))];refine(U9 G m i hi hg _).use ?_
 generalize szs m m.crs[i].pts=ns at hin hsl hlen|-
 have hne:((l.length:Int) != (ns.length:Int))=false:=by rw[hlen]; simp
 simp -implicitDefEqProofs only[BC,BP,BA,BO,BI,A8,DT,AY,BB,AO,AQ,AL,BD,AX,AC,AA,AZ,AU,BH,BG,A7,BR,D7,AB,EK,BF,BN,↓reduceIte,jA,jB,jC,enP,JA,jI,hne];refine DK (fun n F H=>∃k,n+k=l.length∧F 8=.sl .any 1 (ns.map IG)∧(∃z,F 9=.int .i64 z∧AQ7 ns l 0=AQ7 (ns.drop k) (l.drop k) z)∧F 24=.sl s 1 (l.map encI)∧F 25=.int .i64 l.length∧F 26=.int .i64 (k:Nat)∧H=h++[ABlk.live 2 [D6 m]]) l.length ⟨0,by simp,by simp -implicitDefEqProofs only[AA,↓reduceIte,jA],⟨0,rfl,rfl⟩,by simp -implicitDefEqProofs only[AA,↓reduceIte,jA],by simp -implicitDefEqProofs only[AA,↓reduceIte,jA],by simp -implicitDefEqProofs only[AA,↓reduceIte]; rfl,rfl⟩ ?_;rintro n F H ⟨k,hk,f8,⟨z,f9,hz⟩,f24,f25,f26,rfl⟩;simp -implicitDefEqProofs only[BC,BA,BI,A8,AY,BB,AO,AQ,AL,BD,AX,AC,AA,AZ,BR,AB,DC,↓reduceIte,jB,jC,enP,f25,f26];refine CU (fun hc=>?_) (fun hc=>?_)
 .have hk':k<l.length:=by simpa using hc
  have hkn:k<ns.length:=by omega
  obtain⟨h0,h1⟩:=AKI hin k hk' hkn;have d0:decide (l[k]<0)=false:=by simp; omega
  have d1:decide (l[k]≥(ns[k]:Int))=false:=by simp; omega
  rw[zJ hk',zJ hkn] at hz;simp -implicitDefEqProofs only[BC,BP,BA,BO,BI,A8,EJ,EQ,DT,AY,BB,BL,BV,CO,ES,AO,AQ,AL,BD,AX,AC,AA,AZ,AU,BH,BM,BG,A7,CQ,DX,BQ,BR,CE,AB,CZ,PZ,DC,G5,↓reduceIte,jA,jB,jC,enP,JF,f8,f9,f24,f26,DU hk',DF ag3 hk',encI0,d0,DU hkn,DF ag3 hkn,encN0,d1,wrap_succ (show k<9223372036854775807 by omega)];exact⟨n-1,by omega,k+1,by omega,trivial,⟨_,rfl,hz⟩,trivial,f25,rfl,trivial⟩
 .have hk':¬k<l.length:=by simpa using hc
  rw[jW (show l.length<=k by omega),AT7] at hz;simp -implicitDefEqProofs only[BC,BA,BK,DJ,A8,EI,EW,ET,KY,AY,BB,AO,AQ,AL,BD,AX,AC,AA,AZ,AU,BM,BG,A7,↓reduceIte,jA,jB,jC,f9,hz];exact⟨trivial,hx⟩
theorem A47 {H:Hp}{o n:Nat}{rows ys:List (List AV)}{s:SM}(ho:H[o]?=some (.live 1 rows))(hr:rows.length=n)(hy:ys.length=n):AG7 Tryz.prog H 57 (.own o 0 n) (.sl s 1 ys)=some (.int .i64 (n:Int),H.set o (.live 1 ys)):=by
 have hrs:TA rows 0 ys=ys:=by
  unfold TA;rw[zN,zY,jW (by omega),jF]
 have h1:min (n:Int) (n:Int)=(n:Int):=by omega
 unfold AG7;simp only[TN,sz3,KO,ho];rw[if_pos ⟨trivial,.inl trivial,by omega⟩];simp [hy,hrs,jX (Nat.le_of_eq hy)]
theorem AQR {E:Env}{f:FuncId}{args:List AV}{h:Hp}{ys:List Nat}{b:Bool}(hc:ACalls E f args h fun v H=>ext h H∧∃o,h.length<=o∧v=.tup [.own o 0 ys.length,.bool b]∧H[o]?=some (.live 1 (ys.map IG))) :
  PCall E f args h (.tup [.sl .any 1 (ys.map IG),.bool b]):=by
 refine ACalls.pure 3 hc ?_;rintro v H ⟨hex,o,ho1,rfl,ho⟩;refine⟨hex,?_⟩;show AV.tup [IV h.length H 2 (.own o 0 ys.length),IV h.length H 2 (.bool b)]=_;rw[ZF AQ9 ho1 ho];rfl
theorem AHB (G:Nat->AV)(m:Mo)(i:Nat)(hi:i<m.crs.length)(hg:CrGood m m.crs[i])(hf:Full m)(K:Nat)(hK:K<GL (szs m m.crs[i].pts))(h:Hp):PCall (En G) 140 [.agg (D6 m),.int .i64 (i:Int),.int .i64 (K:Int)] h (.tup [.sl .any 1 ((NF (szs m m.crs[i].pts) K).map encI),.bool true]):=by
 have hprod:=hg.prod;have hs:=hf.szs hg.here;have hsl:=LJ m m.crs[i].pts;have hfour:=hg.four;show PCall (En G) 140 _ h (.tup [.sl .any 1 (((tupF (szs m m.crs[i].pts) K).1.map fun n:Nat=>(n:Int)).map encI),.bool true]);rw[<-AII];refine AQR ?_;rw[P6];refine acN Tryz.func140 rfl ?_;show awp _ _ _ _ _ (EN _ [.tmp 6,.tmp 7] _);have d0:decide ((K:Int)<0)=false:=by simp
 simp -implicitDefEqProofs only[BC,BA,A8,AY,BB,BL,BV,CO,ES,AO,AQ,AL,BD,AX,AC,AA,AZ,AU,BX,BH,BM,IK,BG,A7,FU,BQ,BR,CB,BU,BZ,AB,DC,BF,BN,jD,jE,jF,↓reduceIte,jA,jB,jC,enP,bxM,d0,ldM (CY h (.live 2 [D6 m]))];refine(ABE G m i hi hg hf _).use ?_;have d1:decide ((K:Int)≥((GL (szs m m.crs[i].pts):Nat):Int))=false:=by simp; omega
 simp -implicitDefEqProofs only[BC,BA,BO,BI,A8,DT,AY,BB,BL,BV,CO,ES,AO,AQ,AL,BD,AX,AC,AA,AZ,AU,BX,BM,BG,CQ,DX,BQ,BR,CB,BU,AB,G5,BF,BN,jD,jE,jF,↓reduceIte,jA,jB,jC,enP,d1,ldM (CY h (.live 2 [D6 m]))];refine(U9 G m i hi hg _).use ?_;clear d1
 generalize szs m m.crs[i].pts=ns at hs hsl hK hprod|-
 have hlt:h.length<=(h++[ABlk.live 2 [D6 m]]).length:=by simp
 have he0:ext h (h++[ABlk.live 2 [D6 m]]):=(ext.rfl' h).app _
 generalize h++[ABlk.live 2 [D6 m]]=H at hlt he0|-
 have hcp:=A47 (s:=.any) (ys:=ns.map IG) (CY H (.live 1 ((List.replicate ns.length 0).map IG))) (n:=ns.length) (by simp) (by simp);rw[ACN] at hcp;simp -implicitDefEqProofs only[BC,BP,BA,A8,AY,BB,AO,AQ,AL,BD,AX,AC,AA,AZ,AU,BH,BG,A7,BR,JI,D7,AZ6,BZ,AB,J5,↓reduceIte,jA,jB,jC,enP,JA,jI,A0W H ns.length (by omega),hcp];rw[wrap_i64 (n:=(ns.length:Int)-1) (by omega) (by omega)];refine DK (fun n F H'=>∃j,n=j∧j<=ns.length∧F 8=.sl .any 1 (ns.map IG)∧F 9=.own H.length 0 ns.length∧F 10=.int .i64 ((j:Int)-1)∧F 2=.int .i64 ((tupF (ns.drop j) K).2:Nat)∧ext h H'∧H'[H.length]?=some (.live 1 ((ns.take j++(tupF (ns.drop j) K).1).map IG))) ns.length ⟨ns.length,rfl,jM _,by simp -implicitDefEqProofs only[AA,↓reduceIte,jA],by simp -implicitDefEqProofs only[AA,↓reduceIte,jA],by simp -implicitDefEqProofs only[AA,↓reduceIte],by simp -implicitDefEqProofs only[AA,BF,BN,↓reduceIte,jA]; rw[jW (jM _)]; rfl,he0.app _,?_⟩ ?_
 .rw[jW (jM _),jX (jM _)]
  simp only[tupF,jF];exact CY _ _
 rintro n F H' ⟨j,rfl,hj,f8,f9,f10,f2,he,ho⟩;simp -implicitDefEqProofs only[BC,BA,BI,A8,AY,BB,AO,AQ,AL,BD,AX,AC,AA,AZ,AU,BH,BG,BR,AB,G5,↓reduceIte,jB,jC,enP,f10]
 cases n with
 | zero =>
   have:decide ((((0:Nat):Int)-1)≥0)=false:=by decide
   simp -implicitDefEqProofs only[BC,BA,BK,DJ,A8,EI,EW,ET,KY,DT,AY,BB,AO,AQ,AL,BD,AX,AC,AA,AZ,AU,BM,BG,A7,↓reduceIte,jA,jB,jC,this,f9];rw[zN,zY,List.drop_zero] at ho;exact⟨he,H.length,hlt,rfl,ho⟩
 | succ j =>
   have hd:decide ((j:Int)≥0)=true:=by simp
   have hj':j<ns.length:=by omega
   have h1:=(hs _ (jS hj')).1;have e1:(((j+1:Nat):Int)-1)=(j:Int):=by omega
   have hst:=tup_step (K:=K) hj';have hle:=AHC (ns.drop (j+1)) K;generalize hr:(tupF (ns.drop (j+1)) K)=r at ho f2 hst hle
   have hrow:∃v,((ns.take (j+1)++r.1).map IG)[j]?=some [v]:=by
    refine⟨.int .i64 ns[j],?_⟩;rw[List.getElem?_map,List.getElem?_append_left (by simp; omega),List.getElem?_take_of_lt (by omega),jU hj'];rfl
   have hset:=AJL (f:=IG) (pre:=ns) (out:=r.1) (j:=j) (x:=r.2%ns[j]) hj';simp -implicitDefEqProofs only[BC,BP,BA,BO,A8,EJ,EQ,DI,AY,BB,AO,AQ,AL,BD,AX,AC,EM,AA,AZ,AU,BH,BG,A7,BQ,D5,BR,CE,AB,CX,J5,↓reduceIte,jA,jG,jB,jC,enP,JF,jP,hd,f2,f8,f9,f10,e1,DU hj',DF ag3 hj',encN0,L6 ho hj',AHH _ _ h1,ACO _ _ h1 (show r.2<=9223372036854775807 by omega),ASW ho hrow,hset];refine⟨j,by omega,j,rfl,by omega,trivial,trivial,?_,?_,he.set hlt _,?_⟩
   .rw[wrap_i64 (by omega) (by omega)]
   .rw[hst]
   .rw[hst]; exact D8 ho
theorem AKV (G:Nat->AV)(l:List Int)(s:SM)(b:Nat)(r:Is)(h:Hp)(hb:h[b]?=some (.live 1 [[.sl s 1 (l.map encI)]]))(hl:l.length<=1099511627776) :
  PCall (En G) 187 [.sl r.m 1 (r.l.map encI),.ptr b 0 0] h (.bool (eqL r.l l)):=by
 refine acN Tryz.func187 rfl ?_;show awp _ _ _ _ _ (EN _ [.tmp 3] _);simp -implicitDefEqProofs only[BC,BA,A8,AY,BB,AO,AQ,AL,BD,AX,AC,AA,AZ,AU,BX,BM,BG,A7,BQ,CB,BU,AB,BF,BN,jD,jE,jF,↓reduceIte,jA,jB,jC,enP,JS KC hb];refine(AEH G r.l l r.m s h hl).use ?_;simp -implicitDefEqProofs only[BK,A8,CG,AY,BB,AO,AQ,AL,BD,AX,AC,AA,AZ,A7,↓reduceIte,jB,jC];exact⟨trivial,trivial⟩
theorem AFK (G:Nat->AV)(m:Mo)(i:Nat)(hi:i<m.crs.length)(hg:CrGood m m.crs[i])(l:List Int)(s:SM)(hin:MQ (szs m m.crs[i].pts) l=true)(h:Hp):PCall (En G) 141 [.agg (D6 m),.int .i64 (i:Int),.sl s 1 (l.map encI)] h (.bool (!QT m m.crs[i] l)):=by
 refine ACalls.pure0 rfl ?_;have hh:=hg.here;have hfour:=hg.four;have hnum:=hg.num;have hlen:l.length=m.crs[i].pts.length:=by have:=P9 hin; rw[LJ] at this; omega
 refine acN Tryz.func141 rfl ?_;show awp _ _ _ _ _ (EN _ [.tmp 6] _);have gm:(h++[ABlk.live 2 [D6 m]]++[ABlk.live 1 [[.sl s 1 (l.map encI)]]])[h.length]?=some (.live 2 [D6 m]):=CV (CY _ _);have gl:=CY (h++[ABlk.live 2 [D6 m]]) (.live 1 [[.sl s 1 (l.map encI)]]);have hx:∃x,h++[ABlk.live 2 [D6 m]]++[ABlk.live 1 [[.sl s 1 (l.map encI)]]]=h++x:=⟨_,zA _ _ _⟩;simp -implicitDefEqProofs only[ANK,BC,BA,A8,AY,BB,AO,AQ,AL,BD,AX,AC,AA,AZ,AU,BM,A7,FU,BQ,BZ,BF,BN,↓reduceIte,jA,jB,jC,enP,bxM]
 generalize h++[ABlk.live 2 [D6 m]]++[ABlk.live 1 [[.sl s 1 (l.map encI)]]]=H at gm gl hx|-
 generalize (h++[ABlk.live 2 [D6 m]]).length=lb at gl|-
 simp -implicitDefEqProofs only[AY,AO,AQ,AL,BD,AX,AC,AA,AZ,BX,BG,BQ,CB,BU,AB,BF,BN,jD,jE,jF,↓reduceIte,jA,jB,jC,enP,ldM gm,JS KC gl];refine(AHV G m i hi hg l s hin _).use ?_;simp -implicitDefEqProofs only[zB,zG,BC,BP,BA,BO,BI,A8,DT,AY,BB,AO,AQ,AL,BD,AX,AC,AA,AZ,AU,BH,BG,A7,BQ,IE,BJ,CE,FI,GU,D7,AB,FK,BF,BN,↓reduceIte,jA,jG,jB,jT,jC,enP,V7,J4,JA,KI,A00 gm,DU hi,DF KC hi,ABT,jI];have hkb:=V6 m m.crs[i].pts l;refine GN 0 (fun F H'=>F 1=.int .i64 (i:Nat)∧F 3=.ptr h.length 0 0∧F 5=.ptr lb 0 0∧H'=H∧OA m m.crs[i].pts l=true) (fun F H'=>F 6=.bool true∧H'=H∧OA m m.crs[i].pts l=false) ?_ ?_ ?_
 .refine DK (fun n F H'=>∃k,n+k=l.length∧F 1=.int .i64 (i:Nat)∧F 3=.ptr h.length 0 0∧F 5=.ptr lb 0 0∧F 25=.sl m.crs[i].pm 1 (m.crs[i].pts.map encI)∧F 26=.int .i64 m.crs[i].pts.length∧F 27=.int .i64 (k:Nat)∧H'=H∧OA m m.crs[i].pts l=OA m (m.crs[i].pts.drop k) (l.drop k)) l.length ⟨0,by simp,by simp -implicitDefEqProofs only[AA,BF,BN,↓reduceIte,jA],by simp -implicitDefEqProofs only[AA,↓reduceIte,jA],by simp -implicitDefEqProofs only[AA,↓reduceIte,jA],by simp -implicitDefEqProofs only[AA,↓reduceIte,jA],by simp -implicitDefEqProofs only[AA,↓reduceIte,jA],by simp -implicitDefEqProofs only[AA,↓reduceIte]; rfl,rfl,rfl⟩ ?_
  rintro n F H' ⟨k,hk,f1,f3,f5,f25,f26,f27,rfl,hk0⟩;simp -implicitDefEqProofs only[BC,BA,BI,A8,AY,BB,AO,AQ,AL,BD,AX,AC,AA,AZ,BR,AB,DC,↓reduceIte,jB,jC,enP,f26,f27];refine CU (fun hc=>?_) (fun hc=>?_)
  .have hkc:k<m.crs[i].pts.length:=by simpa using hc
   have hk':k<l.length:=by omega
   rw[hkb k hkc hk'] at hk0;obtain⟨h0,h1⟩:=ACS hin k hk' hkc;obtain⟨s2,ls⟩:=hh.ld hkc H';have hlt:l[k].toNat<(JL m m.crs[i].pts[k]).length:=by omega
   simp -implicitDefEqProofs only[BC,BP,BA,BO,A8,AY,BB,AO,AQ,AL,BD,AX,AC,AA,AZ,BG,A7,BQ,CE,AB,↓reduceIte,jA,jB,jC,enP,JF,f25,f27,DU hkc,DF ag3 hkc,encI0];refine EZ (by kernel_rfl) ?_;simp -implicitDefEqProofs only[FZ,ED,DN,E8,EF,FO,FB,IY,D9,EE,BI,A8,AO,AA,AZ,AU,BH,BQ,BR,BJ,CE,AB,EK,↓reduceIte,jA,jK,jL,jG,jB,enP,SS,IR,YD,JB,JF,MP,bne,f3,f5,f27,AXX gm,hh.ix hkc,ls,JS KC gl,DU hk',DF ag3 hk',encI0,ANL h0 h1,DF ag3 hlt,UK,AEY h0 h1];cases hkd:(YC m m.crs[i].pts[k] l[k]==0)
   .simp -implicitDefEqProofs only[BC,BA,BK,A8,CP,EG,NG,FQ,DI,AY,BB,AO,AQ,AL,BD,AX,AC,AA,AU,BM,A7,↓reduceIte,jB,jC]
    exact⟨trivial,trivial,by rw[hk0,hkd]; rfl⟩
   .simp -implicitDefEqProofs only[BA,BO,A8,EJ,EQ,DT,AY,BB,AO,AQ,AL,BD,AX,AC,AA,AZ,AU,BH,BG,BR,AB,CZ,↓reduceIte,jA,jB,jT,jC,enP,f27,wrap_succ (show k<9223372036854775807 by omega)]
    exact⟨n-1,by omega,k+1,by omega,f1,f3,f5,f25,f26,rfl,trivial,by rw[hk0,hkd]; rfl⟩
  .have hk':¬k<m.crs[i].pts.length:=by simpa using hc
   simp -implicitDefEqProofs only[DJ,EI,J3,ET,AA,↓reduceIte,jA];exact⟨f1,f3,f5,trivial,by rw[hk0,jW (show l.length<=k by omega),YB]⟩
 .rintro F H' ⟨f1,f3,f5,rfl,hk⟩
  simp -implicitDefEqProofs only[BC,BA,A8,EW,AY,AO,AQ,AL,BD,AX,AC,AA,AZ,BX,BG,BQ,I8,BJ,CE,CB,BU,AB,jD,jE,jF,↓reduceIte,jA,jG,jB,jC,enP,V7,J4,U5,f1,f3,f5,A00 gm,DU hi,DF QX hi,APT];refine(SC G m.crs[i].excl m.crs[i].xm 187 _ (fun x=>eqL x.l l) _ (by omega) fun r=>AKV G l s _ r _ gl (by omega)).use ?_;simp -implicitDefEqProofs only[BK,A8,CG,AY,BB,AO,AQ,AL,BD,AX,AC,AA,AZ,A7,↓reduceIte,jB,jC];exact⟨by unfold QT; rw[hk]; simp,hx⟩
 .rintro F H' ⟨f6,rfl,hk⟩
  simp -implicitDefEqProofs only[CP,EG,CG,f6];exact⟨by unfold QT; rw[hk]; rfl,hx⟩
structure Gl where
 cross:Bool
 idx:Nat
 bm:SM
 bins:List Int
 at_:Nat
def KQ (g:Gl):List AV:=[.bool g.cross,.int .i64 (g.idx:Int),.sl g.bm 1 (g.bins.map encI),.int .i64 (g.at_:Int)]
def UJ (g:Gl):List AV:=[.bool g.cross,.int .i64 (g.idx:Int),.sl g.bm 1 (g.bins.map encI)]
theorem SA (g:Gl):(KQ g).length=4:=rfl
theorem A45:Frz KQ:=fun _ _ _ _=>⟨rfl,rfl⟩
theorem A44:Frz UJ:=fun _ _ _ _=>⟨rfl,rfl⟩
def mkP (i k:Nat):Gl:=⟨false,i,.full,[(k:Int)],k⟩
def mkC (m:Mo)(i k:Nat)(c:Cr):Gl:=⟨true,i,.any,NF (szs m c.pts) k,k⟩
def gPk (i:Nat)(p:Pt):Nat->List Gl
 | 0=>[]
 | k+1=>gPk i p k++(if(kindOf p k==0)=true then [mkP i k] else [])
def gP (m:Mo):Nat->List Gl
 | 0=>[]
 | i+1=>gP m i++(match m.pts[i]? with|some p=>gPk i p p.bins.length|none=>[])
def gCk (m:Mo)(i:Nat)(c:Cr):Nat->List Gl
 | 0=>[]
 | k+1=>gCk m i c k++(if QT m c (NF (szs m c.pts) k)=true then [mkC m i k c] else [])
def gC (m:Mo):Nat->List Gl
 | 0=>gP m m.pts.length
 | i+1=>gC m i++(match m.crs[i]? with|some c=>gCk m i c (GL (szs m c.pts))|none=>[])
def goals (m:Mo):List Gl:=gC m m.crs.length
theorem AHZ (i:Nat)(p:Pt):∀k,(gPk i p k).length<=k
 | 0=>jM _
 | k+1=>by
   have:=AHZ i p k;simp only[gPk,qB];split<;>simp<;>omega
theorem AMW {m:Mo}(hf:Full m):∀i,(gP m i).length<=64*i
 | 0=>jM _
 | i+1=>by
   have h1:=AMW hf i;simp only[gP,qB];split
   .rename_i p hp
    have h2:=AHZ i p p.bins.length;have h3:=(hf p (zW hp)).2;omega
   .simp; omega
theorem AH0 (m:Mo)(i:Nat)(c:Cr):∀k,(gCk m i c k).length<=k
 | 0=>jM _
 | k+1=>by
   have:=AH0 m i c k;simp only[gCk,qB];split<;>simp<;>omega
theorem AMX {m:Mo}(hg:Good m):∀i,(gC m i).length<=64*m.pts.length+256*i
 | 0=>AMW hg.full _
 | i+1=>by
   have h1:=AMX hg i;simp only[gC,qB];split
   .rename_i c hc
    have h2:=AH0 m i c (GL (szs m c.pts));have h3:=(hg.crs c (zW hc)).prod;omega
   .simp; omega
theorem AAO {m:Mo}(hg:Good m):(goals m).length<=8192:=by
 have h1:=AMX hg m.crs.length;have h2:=hg.num;unfold goals; omega
theorem A3S (i:Int)(xs:List (List AV)):LQ Tryz.prog 106 [(1,.int .i64 i),(2,.sl .full 1 xs)]=some (.agg [.bool false,.int .i64 i,.sl .full 1 xs]):=by kernel_rfl
theorem A3U (i:Int)(xs:List (List AV)):LQ Tryz.prog 106 [(0,.bool true),(1,.int .i64 i),(2,.sl .any 1 xs)]=some (.agg [.bool true,.int .i64 i,.sl .any 1 xs]):=by kernel_rfl
theorem A3Q (i k:Int)(xs:List (List AV)):LQ Tryz.prog 108 [(0,.agg [.bool false,.int .i64 i,.sl .full 1 xs]),(1,.int .i64 k)]=some (.agg [.bool false,.int .i64 i,.sl .full 1 xs,.int .i64 k]):=by kernel_rfl
theorem A3R (i k:Int)(xs:List (List AV)):LQ Tryz.prog 108 [(0,.agg [.bool true,.int .i64 i,.sl .any 1 xs]),(1,.int .i64 k)]=some (.agg [.bool true,.int .i64 i,.sl .any 1 xs,.int .i64 k]):=by kernel_rfl
theorem A3L (h:Hp)(g:Gl)(hf:(KQ g).all AV.frozen=true):FY Tryz.prog false h 101 1 [(0,.agg (KQ g))]=some (.sl .full 4 [KQ g],h):=by
 have h1:Tryz.prog.underlying 101=some (.slice 108):=ASO;unfold FY;simp only[h1,ABC,ASF];have h2:XM 4 0 [(0,AV.agg (KQ g))]=some [KQ g]:=rfl;simp [h2,hf]
theorem YH (G:Nat->AV)(m:Mo)(hm:MoOk m)(hg:Good m)(h:Hp):PCall (En G) 80 [.agg (D6 m)] h (.sl (nm (goals m)) 4 ((goals m).map KQ)):=by
 refine MW A45 ?_;have hm1:=hm.np;have hm2:=hm.nc;have hnum:=hg.num;refine acN Tryz.func80 rfl ?_;show awp _ _ _ _ _ (EN _ [.tmp 2] _);simp -implicitDefEqProofs only[BC,BP,BA,A8,AY,BB,AO,AQ,AL,BD,AX,AC,AA,AZ,AU,BH,IK,BG,A7,FU,BQ,BJ,D7,BZ,AB,BF,↓reduceIte,jA,jL,jB,jC,enP,QS,IR,bxM,AXX (CY h (.live 2 [D6 m])),jI];refine GN 0 (fun F H=>F 1=.ptr h.length 0 0∧H[h.length]?=some (.live 2 [D6 m])∧ext h H∧(∀b,isB (F 3) b->h.length<b)∧outG 4 KQ h (gC m 0) (F 3) H) (fun _ _=>False) ?_ ?_ (fun _ _ hh=>hh.elim)
 .refine DK (fun n F H=>∃i,n+i=m.pts.length∧F 1=.ptr h.length 0 0∧F 13=.sl m.pm 6 (m.pts.map GM)∧F 14=.int .i64 m.pts.length∧F 15=.int .i64 (i:Nat)∧H[h.length]?=some (.live 2 [D6 m])∧ext h H∧(∀b,isB (F 3) b->h.length<b)∧outG 4 KQ h (gP m i) (F 3) H) m.pts.length ⟨0,by simp,by simp -implicitDefEqProofs only[AA,↓reduceIte,jA],by simp -implicitDefEqProofs only[AA,↓reduceIte,jA],by simp -implicitDefEqProofs only[AA,↓reduceIte,jA],by simp -implicitDefEqProofs only[AA,↓reduceIte]; rfl,CY _ _,(ext.rfl' h).app _,fun b hb=>hb.elim,outG.nil _ _ _ _⟩ ?_
  rintro n F H ⟨i,hi,f1,f13,f14,f15,gm,he,hlt,ho⟩;simp -implicitDefEqProofs only[BC,BA,BI,A8,AY,BB,AO,AQ,AL,BD,AX,AC,AA,AZ,BR,AB,DC,↓reduceIte,jB,jC,enP,f14,f15];refine CU (fun hc=>?_) (fun hc=>?_)
  .have hi':i<m.pts.length:=by simpa using hc
   have hgp:gP m (i+1)=gP m i++gPk i m.pts[i] m.pts[i].bins.length:=by
    simp only[gP]; rw[jU hi']
   have h64:=(hg.full _ (jS hi')).2;have hpl:=AMW hg.full i;simp -implicitDefEqProofs only[BC,BP,BA,BO,A8,AY,BB,AO,AQ,AL,BD,AX,AC,EM,AA,AZ,AU,BH,BG,A7,FD,BQ,D5,BJ,CE,D7,BZ,AB,CX,↓reduceIte,jA,jG,jB,jC,enP,SS,RQ,JB,jP,f13,f15,DU hi',FM ACG YW JR hi',AR4,AQB _ _ [.str ⟨#[]⟩,.int .i64 0,.int .i64 0,.str ⟨#[]⟩,.sl .nil 0 [],.sl .nil 0 []] rfl,DL SG,NS,jI];refine GN 2 (fun F' H'=>F' 1=.ptr h.length 0 0∧F' 13=.sl m.pm 6 (m.pts.map GM)∧F' 14=.int .i64 m.pts.length∧F' 15=.int .i64 (i:Nat)∧H'[h.length]?=some (.live 2 [D6 m])∧ext h H'∧(∀b,isB (F' 3) b->h.length<b)∧outG 4 KQ h (gP m (i+1)) (F' 3) H') (fun _ _=>False) ?_ ?_ (fun _ _ hh=>hh.elim)
   .refine DK (fun n F' H'=>∃k,n+k=m.pts[i].bins.length∧F' 1=.ptr h.length 0 0∧F' 13=.sl m.pm 6 (m.pts.map GM)∧F' 14=.int .i64 m.pts.length∧F' 15=.int .i64 (i:Nat)∧F' 4=.int .i64 (i:Nat)∧F' 21=.sl m.pts[i].bm 4 (m.pts[i].bins.map GV)∧F' 22=.int .i64 m.pts[i].bins.length∧F' 23=.int .i64 (k:Nat)∧H'[h.length]?=some (.live 2 [D6 m])∧ext h H'∧(∀b,isB (F' 3) b->h.length<b)∧outG 4 KQ h (gP m i++gPk i m.pts[i] k) (F' 3) H') m.pts[i].bins.length ⟨0,by simp,by simp -implicitDefEqProofs only[AA,↓reduceIte,jA,f1],by simp -implicitDefEqProofs only[AA,↓reduceIte,jA,f13],by simp -implicitDefEqProofs only[AA,↓reduceIte,jA,f14],by simp -implicitDefEqProofs only[AA,↓reduceIte,jA,f15],by simp -implicitDefEqProofs only[AA,↓reduceIte,jA],by simp -implicitDefEqProofs only[AA,↓reduceIte,jA],by simp -implicitDefEqProofs only[AA,↓reduceIte,jA],by simp -implicitDefEqProofs only[AA,↓reduceIte]; rfl,CV gm,he.app _,hlt,by rw[show gPk i m.pts[i] 0=[] from rfl,jF]; exact ho.app _⟩ ?_
    clear f1 f13 f14 f15 gm he hlt ho;rintro n' F H ⟨k,hk,f1,f13,f14,f15,f4,f21,f22,f23,gm,he,hlt,ho⟩;simp -implicitDefEqProofs only[BC,BA,BI,A8,AY,BB,AO,AQ,AL,BD,AX,AC,AA,AZ,BR,AB,DC,↓reduceIte,jB,jC,enP,f22,f23];refine CU (fun hc=>?_) (fun hc=>?_)
    .have hk':k<m.pts[i].bins.length:=by simpa using hc
     have hkd:kindOf m.pts[i] k=(m.pts[i].bins[k]).kind:=by unfold kindOf; rw[jU hk']
     have hkl:=AHZ i m.pts[i] k;have ho1:=ho.app [.live 4 [GV m.pts[i].bins[k]]];have he1:ext h (H++[.live 4 [GV m.pts[i].bins[k]]]):=he.app _;simp -implicitDefEqProofs only[BC,BP,BA,BO,BI,A8,AY,BB,AO,AQ,AL,BD,AX,AC,EM,AA,AZ,AU,BH,BG,A7,FD,BQ,D5,BR,BJ,CE,BZ,AB,CX,EC,↓reduceIte,jA,jG,jB,jC,enP,YD,MP,jP,f21,f23,DU hk',FM VF QK MJ hk',AY3,A0G _ _ [.str ⟨#[]⟩,.int .i64 0,.sl .nil 0 [],.sl .nil 0 []] rfl,DL ag3,UK];cases hz:(m.pts[i].bins[k].kind==0)
     .have hgk:gPk i m.pts[i] (k+1)=gPk i m.pts[i] k:=by
       simp only[gPk]; rw[hkd,hz]; simp
      simp -implicitDefEqProofs only[BA,BO,A8,EJ,EQ,DT,AY,BB,AO,AQ,AL,BD,AX,AC,AA,AZ,AU,BH,BG,BR,AB,CZ,↓reduceIte,jA,jB,jC,enP,f23,wrap_succ (show k<9223372036854775807 by omega)];refine⟨n'-1,by omega,k+1,by omega,f1,f13,f14,f15,f4,f21,f22,rfl,CV gm,he1,hlt,?_⟩;rw[hgk]; exact ho1
     .have hgk:gP m i++gPk i m.pts[i] (k+1)=(gP m i++gPk i m.pts[i] k)++[mkP i k]:=by
       simp only[gPk]; rw[hkd,hz,if_pos rfl,zA]
      obtain⟨v',H',ha,ho',hkeep,he',hle,hb'⟩:=ho1.append ASO ABC ASF AZX (by omega) (by rw[qB]; omega) he1 (mkP i k);simp -implicitDefEqProofs only[EY,FT,BA,DI,AY,AO,AQ,AL,BD,AX,AC,AA,AZ,BG,G9,EP,BZ,AB,↓reduceIte,jA,jB,jC,enP,f4,ACE,A3S,A3Q];rw[show [AV.bool false,AV.int .i64 ((i:Nat):Int),AV.sl .full 1 [[.int .i64 ((k:Nat):Int)]],AV.int .i64 ((k:Nat):Int)]=KQ (mkP i k) from rfl];simp -implicitDefEqProofs only[AY,AO,AQ,AL,BD,AX,AC,AA,AZ,GR,BZ,↓reduceIte,jA,jB,jC,enP,A3L _ _ (show(KQ (mkP i k)).all AV.frozen=true from rfl)];refine HY (v:=v') (h:=H') ha ?_;simp -implicitDefEqProofs only[BA,A8,EJ,EQ,AY,BB,AO,AQ,AL,BD,AX,AC,AA,AZ,AU,BH,BG,A7,BR,AB,CZ,↓reduceIte,jA,jB,jC,enP,f23,wrap_succ (show k<9223372036854775807 by omega)];refine⟨n'-1,by omega,k+1,by omega,f1,f13,f14,f15,f4,f21,f22,rfl,hkeep _ _ (CV gm) (fun e=>by have:=hlt _ e; omega),he',fun b hbb=>?_,?_⟩
      .have h1:=hb' b hbb; have h2:=CJ gm; rw[h1]; simp; omega
      .rw[hgk]; exact ho'
    .have hk':¬k<m.pts[i].bins.length:=by simpa using hc
     have hke:k=m.pts[i].bins.length:=by omega
     simp -implicitDefEqProofs only[DJ,EI,J3,ET,AA,↓reduceIte,jA];refine⟨f1,f13,f14,f15,gm,he,hlt,?_⟩;rw[hgp,<-hke]; exact ho
   .rintro F' H' ⟨g1,g13,g14,g15,gm',he',hlt',ho'⟩
    simp -implicitDefEqProofs only[BA,A8,EJ,EW,EQ,AY,BB,AO,AQ,AL,BD,AX,AC,AA,AZ,AU,BH,BG,BR,AB,CZ,↓reduceIte,jA,jB,jC,enP,g15,wrap_succ (show i<9223372036854775807 by omega)];exact⟨n-1,by omega,i+1,by omega,g1,g13,g14,rfl,gm',he',hlt',ho'⟩
  .have hi':¬i<m.pts.length:=by simpa using hc
   have hie:i=m.pts.length:=by omega
   subst hie;simp -implicitDefEqProofs only[DJ,EI,J3,ET,AA,↓reduceIte,jA];exact⟨f1,gm,he,hlt,ho⟩
 .rintro F H ⟨f1,gm,he,hlt,ho⟩
  simp -implicitDefEqProofs only[BC,BP,BA,A8,EW,AY,BB,AO,AQ,AL,BD,AX,AC,AA,AZ,AU,BH,BG,BQ,BJ,D7,AB,↓reduceIte,jG,jB,jC,enP,VL,J4,f1,A00 gm,jI];refine DK (fun n F H=>∃i,n+i=m.crs.length∧F 1=.ptr h.length 0 0∧F 44=.int .i64 m.crs.length∧F 45=.int .i64 (i:Nat)∧H[h.length]?=some (.live 2 [D6 m])∧ext h H∧(∀b,isB (F 3) b->h.length<b)∧outG 4 KQ h (gC m i) (F 3) H) m.crs.length ⟨0,by simp,by simp -implicitDefEqProofs only[AA,↓reduceIte,jA,f1],by simp -implicitDefEqProofs only[AA,↓reduceIte,jA],by simp -implicitDefEqProofs only[AA,↓reduceIte]; rfl,gm,he,hlt,ho⟩ ?_;clear f1 gm he hlt ho;rintro n F H ⟨i,hi,f1,f44,f45,gm,he,hlt,ho⟩;simp -implicitDefEqProofs only[BC,BA,BI,A8,AY,BB,AO,AQ,AL,BD,AX,AC,AA,AZ,BR,AB,DC,↓reduceIte,jB,jC,enP,f44,f45];refine CU (fun hc=>?_) (fun hc=>?_)
  .have hi':i<m.crs.length:=by simpa using hc
   have hcg:=hg.crs _ (jS hi');have hfs:=hg.full.szs hcg.here
   have hgc:gC m (i+1)=gC m i++gCk m i m.crs[i] (GL (szs m m.crs[i].pts)):=by
    simp only[gC]; rw[jU hi']
   have hpr:=hcg.prod;have hcl:=AMX hg i;simp -implicitDefEqProofs only[BC,BP,BA,BO,A8,AY,BB,AO,AQ,AL,BD,AX,AC,AA,AZ,BX,BG,A7,BQ,CB,BU,AB,jD,jE,jF,↓reduceIte,jA,jB,jC,enP,f1,f45,ldM gm];refine(ABE G m i hi' hcg hg.full _).use ?_;simp -implicitDefEqProofs only[BP,A8,AY,BB,AO,AQ,AL,BD,AX,AC,AU,BH,BG,jB,jC];refine GN 6 (fun F' H'=>F' 1=.ptr h.length 0 0∧F' 44=.int .i64 m.crs.length∧F' 45=.int .i64 (i:Nat)∧H'[h.length]?=some (.live 2 [D6 m])∧ext h H'∧(∀b,isB (F' 3) b->h.length<b)∧outG 4 KQ h (gC m (i+1)) (F' 3) H') (fun _ _=>False) ?_ ?_ (fun _ _ hh=>hh.elim)
   .refine DK (fun n F' H'=>∃k,n+k=GL (szs m m.crs[i].pts)∧F' 1=.ptr h.length 0 0∧F' 44=.int .i64 m.crs.length∧F' 45=.int .i64 (i:Nat)∧F' 8=.int .i64 (i:Nat)∧F' 50=.int .i64 (GL (szs m m.crs[i].pts):Nat)∧F' 51=.int .i64 (k:Nat)∧H'[h.length]?=some (.live 2 [D6 m])∧ext h H'∧(∀b,isB (F' 3) b->h.length<b)∧outG 4 KQ h (gC m i++gCk m i m.crs[i] k) (F' 3) H') (GL (szs m m.crs[i].pts)) ⟨0,by simp,by simp -implicitDefEqProofs only[AA,↓reduceIte,jA,f1],by simp -implicitDefEqProofs only[AA,↓reduceIte,jA,f44],by simp -implicitDefEqProofs only[AA,↓reduceIte,jA,f45],by simp -implicitDefEqProofs only[AA,↓reduceIte,jA],by simp -implicitDefEqProofs only[AA,↓reduceIte,jA],by simp -implicitDefEqProofs only[AA,↓reduceIte]; rfl,gm,he,hlt,by rw[show gCk m i m.crs[i] 0=[] from rfl,jF]; exact ho⟩ ?_
    clear f1 f44 f45 gm he hlt ho;rintro n' F H ⟨k,hk,f1,f44,f45,f8,f50,f51,gm,he,hlt,ho⟩;simp -implicitDefEqProofs only[BC,BA,BI,A8,AY,BB,AO,AQ,AL,BD,AX,AC,AA,AZ,BR,AB,DC,↓reduceIte,jB,jC,enP,f50,f51];refine CU (fun hc=>?_) (fun hc=>?_)
    .have hk':k<GL (szs m m.crs[i].pts):=by simpa using hc
     have hkl:=AH0 m i m.crs[i] k;simp -implicitDefEqProofs only[BC,BP,BA,BO,A8,AY,BB,AO,AQ,AL,BD,AX,AC,AA,AZ,BX,BG,A7,BQ,CB,BU,AB,jD,jE,jF,↓reduceIte,jA,jB,jC,enP,f1,f8,f51,ldM gm];refine(AHB G m i hi' hcg hg.full k hk' _).use ?_;simp -implicitDefEqProofs only[zB,zG,BC,BA,A8,AY,BB,BL,BV,CO,F9,AO,AQ,AL,BD,AX,AC,AA,AZ,BX,BG,A7,BQ,FI,GU,CB,BU,AB,jD,jE,jF,↓reduceIte,jA,jB,jC,enP,f1,f8,ldM gm];refine(AFK G m i hi' hcg _ _ (UA _ _ fun n hn=>(hfs n hn).1) _).use ?_;simp -implicitDefEqProofs only[BI,A8,AY,BB,BL,BV,CO,F9,AO,AQ,AL,BD,AX,AC,AA,AZ,AU,BM,CQ,DY,IE,AB,FK,↓reduceIte,jA,jB,jC];cases hz:QT m m.crs[i] (NF (szs m m.crs[i].pts) k)
     .have hgk:gCk m i m.crs[i] (k+1)=gCk m i m.crs[i] k:=by
       simp only[gCk]; rw[hz]; simp
      simp -implicitDefEqProofs only[BA,BO,A8,EJ,EQ,DT,AY,BB,AO,AQ,AL,BD,AX,AC,AA,AZ,AU,BH,BG,BR,AB,CZ,↓reduceIte,jA,jB,jT,jC,enP,f51,wrap_succ (show k<9223372036854775807 by omega)];refine⟨n'-1,by omega,k+1,by omega,f1,f44,f45,f8,f50,rfl,gm,he,hlt,?_⟩;rw[hgk]; exact ho
     .have hgk:gC m i++gCk m i m.crs[i] (k+1)=(gC m i++gCk m i m.crs[i] k)++[mkC m i k m.crs[i]]:=by
       simp only[gCk]; rw[hz,if_pos rfl,zA]
      obtain⟨v',H',ha,ho',hkeep,he',hle,hb'⟩:=ho.append ASO ABC ASF AZX (by omega) (by rw[qB]; omega) he (mkC m i k m.crs[i]);simp -implicitDefEqProofs only[EY,FT,BA,DI,AY,AO,AQ,AL,BD,AX,AC,AA,AZ,AU,BM,BG,G9,EP,AB,↓reduceIte,jA,jB,jT,jC,enP,f8,A3U,A3R];rw[show [AV.bool true,AV.int .i64 ((i:Nat):Int),AV.sl .any 1 ((NF (szs m m.crs[i].pts) k).map encI),AV.int .i64 ((k:Nat):Int)]=KQ (mkC m i k m.crs[i]) from rfl];simp -implicitDefEqProofs only[AY,AO,AQ,AL,BD,AX,AC,AA,AZ,GR,BZ,↓reduceIte,jA,jB,jC,enP,A3L _ _ (show(KQ (mkC m i k m.crs[i])).all AV.frozen=true from rfl)];refine HY (v:=v') (h:=H') ha ?_;simp -implicitDefEqProofs only[BA,A8,EJ,EQ,AY,BB,AO,AQ,AL,BD,AX,AC,AA,AZ,AU,BH,BG,A7,BR,AB,CZ,↓reduceIte,jA,jB,jC,enP,f51,wrap_succ (show k<9223372036854775807 by omega)];refine⟨n'-1,by omega,k+1,by omega,f1,f44,f45,f8,f50,rfl,hkeep _ _ gm (fun e=>by have:=hlt _ e; omega),he',fun b hbb=>?_,?_⟩
      .have h1:=hb' b hbb; have h2:=CJ gm; omega
      .rw[hgk]; exact ho'
    .have hk':¬k<GL (szs m m.crs[i].pts):=by simpa using hc
     have hke:k=GL (szs m m.crs[i].pts):=by omega
     simp -implicitDefEqProofs only[DJ,EI,J3,ET,AA,↓reduceIte,jA];refine⟨f1,f44,f45,gm,he,hlt,?_⟩;rw[hgc,<-hke]; exact ho
   .rintro F' H' ⟨g1,g44,g45,gm',he',hlt',ho'⟩
    simp -implicitDefEqProofs only[BA,A8,EJ,EW,EQ,AY,BB,AO,AQ,AL,BD,AX,AC,AA,AZ,AU,BH,BG,BR,AB,CZ,↓reduceIte,jA,jB,jC,enP,g45,wrap_succ (show i<9223372036854775807 by omega)];exact⟨n-1,by omega,i+1,by omega,g1,g44,rfl,gm',he',hlt',ho'⟩
  .have hi':¬i<m.crs.length:=by simpa using hc
   have hie:i=m.crs.length:=by omega
   subst hie;simp -implicitDefEqProofs only[BC,BA,BK,DJ,A8,EI,EW,ET,CG,AY,BB,AO,AQ,AL,BD,AX,AC,AA,AZ,BG,A7,↓reduceIte,jA,jB,jC];exact⟨he,ho⟩
def cellAt (l:List Is)(i k:Nat):Int:=match l[i]? with
 | some x=>(match x.l[k]? with|some z=>z|none=>0)
 | none=>0
def MK (v:Cvr)(g:Gl):Int:=if g.cross then cellAt v.crs g.idx g.at_ else cellAt v.pts g.idx g.at_
def InL (l:List Is)(i k:Nat):Prop:=∃hi:i<l.length,k<(l[i]'hi).l.length
def InR (v:Cvr)(g:Gl):Prop:=if g.cross=true then InL v.crs g.idx g.at_ else InL v.pts g.idx g.at_
theorem AGT {l:List Is}{i k:Nat}(h:InL l i k):∃(hi:i<l.length) (hk:k<l[i].l.length),cellAt l i k=l[i].l[k]:=by
 obtain⟨hi,hk⟩:=h;refine⟨hi,hk,?_⟩;unfold cellAt;rw[jU hi];simp only;rw[jU hk]
def AV8 (m:Mo)(g:Gl):Prop:=(g.cross=false∧∃p,m.pts[g.idx]?=some p∧g.at_<p.bins.length)∨(g.cross=true∧∃c,m.crs[g.idx]?=some c∧g.at_<GL (szs m c.pts))
theorem AUF {i:Nat}{p:Pt}:∀ {k:Nat} {g:Gl},g∈gPk i p k->g.cross=false∧g.idx=i∧g.at_<k
 | 0,g,h=>by cases h
 | k+1,g,h=>by
   simp only[gPk,qE] at h;rcases h with h|h
   .obtain⟨h1,h2,h3⟩:=AUF h; exact⟨h1,h2,by omega⟩
   .split at h
    .simp at h; subst h; exact⟨rfl,rfl,Nat.lt_succ_self k⟩
    .cases h
theorem AZS {m:Mo}:∀ {i:Nat} {g:Gl},g∈gP m i->AV8 m g
 | 0,g,h=>by cases h
 | i+1,g,h=>by
   simp only[gP,qE] at h;rcases h with h|h
   .exact AZS h
   .split at h
    .rename_i p hp
     obtain⟨h1,h2,h3⟩:=AUF h;exact .inl ⟨h1,p,by rw[h2]; exact hp,h3⟩
    .cases h
theorem AUG {m:Mo}{i:Nat}{c:Cr}:∀ {k:Nat} {g:Gl},g∈gCk m i c k->g.cross=true∧g.idx=i∧g.at_<k
 | 0,g,h=>by cases h
 | k+1,g,h=>by
   simp only[gCk,qE] at h;rcases h with h|h
   .obtain⟨h1,h2,h3⟩:=AUG h; exact⟨h1,h2,by omega⟩
   .split at h
    .simp at h; subst h; exact⟨rfl,rfl,Nat.lt_succ_self k⟩
    .cases h
theorem AZT {m:Mo}:∀ {i:Nat} {g:Gl},g∈gC m i->AV8 m g
 | 0,g,h=>AZS h
 | i+1,g,h=>by
   simp only[gC,qE] at h;rcases h with h|h
   .exact AZT h
   .split at h
    .rename_i c hc
     obtain⟨h1,h2,h3⟩:=AUG h;exact .inr ⟨h1,c,by rw[h2]; exact hc,h3⟩
    .cases h
theorem UH {α:Type}{ok:α->Is->Bool}:∀ {ws:List α} {xs:List Is},KA ok ws xs=true->∀(i:Nat) (a:α),ws[i]?=some a->∃x,xs[i]?=some x∧ok a x=true
 | [],[],_,i,a,h=>by simp at h
 | w::ws,x::xs,h,i,a,ha=>by
   simp only[KA,jV] at h
   cases i with
   | zero=>simp at ha; subst ha; exact⟨x,rfl,h.1⟩
   | succ i=>exact UH h.2 i a (by simpa using ha)
 | [],_::_,h,_,_,_=>by cases h
 | _::_,[],h,_,_,_=>by cases h
theorem AT6 {l:List Is}{i k n:Nat}{x:Is}(hx:l[i]?=some x)(hn:x.l.length=n)(hk:k<n):InL l i k:=by
 obtain⟨hi,e⟩:=List.getElem?_eq_some_iff.1 hx;exact⟨hi,by rw[e]; omega⟩
theorem AT5 {m:Mo}{v:Cvr}(hf:GK m v=true){g:Gl}(hg:g∈goals m):InR v g:=by
 unfold GK at hf;simp only[jV] at hf;obtain⟨⟨⟨⟨_,h1⟩,h2⟩,_⟩,_⟩:=hf;unfold InR;rcases AZT hg with⟨hc,p,hp,hk⟩|⟨hc,c,hcc,hk⟩
 .rw[if_neg (by simp [hc])]
  obtain⟨x,hx,ho⟩:=UH h1 _ _ hp;unfold okP at ho;simp only[jV,beq_iff_eq] at ho;exact AT6 hx ho.1 hk
 .rw[if_pos hc]
  obtain⟨x,hx,ho⟩:=UH h2 _ _ hcc;unfold okC at ho;simp only[jV,beq_iff_eq] at ho;exact AT6 hx ho.1 hk
theorem A29 (g:Gl):(KQ g)[0]?=some (.bool g.cross):=rfl
theorem A28 (g:Gl):(KQ g)[1]?=some (.int .i64 (g.idx:Int)):=rfl
theorem A27 (g:Gl):(KQ g)[3]?=some (.int .i64 (g.at_:Int)):=rfl
theorem bxG (h:Hp)(g:Gl):PW h (.agg (KQ g))=some (.ptr h.length 0 0,h++[.live 4 [KQ g]]):=rfl
theorem XN (G:Nat->AV)(v:Cvr)(g:Gl)(hi:InR v g)(h:Hp):PCall (En G) 82 [.agg (KQ g),.agg (ER v)] h (.bool (decide (MK v g>0))):=by
 refine ACalls.pure0 rfl ?_;refine acN Tryz.func82 rfl ?_;show awp _ _ _ _ _ (EN _ [.tmp 4] _);have gg:(h++[ABlk.live 4 [KQ g]]++[ABlk.live 4 [ER v]])[h.length]?=some (.live 4 [KQ g]):=CV (CY _ _);have gv:=CY (h++[ABlk.live 4 [KQ g]]) (.live 4 [ER v]);have hx:∃x,h++[ABlk.live 4 [KQ g]]++[ABlk.live 4 [ER v]]=h++x:=⟨_,zA _ _ _⟩;simp -implicitDefEqProofs only[BC,BA,A8,AY,BB,AO,AQ,AL,BD,AX,AC,AA,AZ,AU,BM,A7,FU,BQ,BJ,BZ,AB,BF,BN,↓reduceIte,jA,jL,jB,jC,enP,APO,ACW,bxG,bxV]
 generalize h++[ABlk.live 4 [KQ g]]++[ABlk.live 4 [ER v]]=H at gg gv hx|-
 generalize (h++[ABlk.live 4 [KQ g]]).length=vb at gv|-
 have l0:EH Tryz.prog H 4 (.ptr h.length 0 0)=some (.bool g.cross):=by rw[DW ag4 gg (row:=KQ g) rfl,A29]
 have l1:EH Tryz.prog H 3 (.ptr h.length 0 1)=some (.int .i64 (g.idx:Int)):=by rw[DW ag3 gg (row:=KQ g) rfl,A28]
 have l3:EH Tryz.prog H 3 (.ptr h.length 0 3)=some (.int .i64 (g.at_:Int)):=by rw[DW ag3 gg (row:=KQ g) rfl,A27]
 have lv0:EH Tryz.prog H 26 (.ptr vb 0 0)=some (.sl v.pm 1 (v.pts.map encL)):=by rw[DW QX gv (row:=ER v) rfl,AKY]
 have lv1:EH Tryz.prog H 26 (.ptr vb 0 1)=some (.sl v.cm 1 (v.crs.map encL)):=by rw[DW QX gv (row:=ER v) rfl,AKX]
 simp -implicitDefEqProofs only[BI,A8,BB,AC,AA,AZ,AB,↓reduceIte,l0];unfold InR at hi;cases hc:g.cross
 .rw[if_neg (by simp [hc])] at hi
  obtain⟨h1,h2,h3⟩:=AGT hi;have hcg:MK v g=v.pts[g.idx].l[g.at_]:=by unfold MK; rw[hc,if_neg (by simp),h3]
  simp -implicitDefEqProofs only[BC,BO,A8,DT];refine EZ (by kernel_rfl) ?_;simp -implicitDefEqProofs only[FZ,ED,DN,E8,EF,I7,FB,IY,D9,EE,BK,A8,CG,AO,AA,AZ,AU,BH,BQ,BR,BJ,CE,AB,FV,↓reduceIte,jA,jK,jL,jG,jB,enP,N7,L8,JF,AIC,ACW,APN,l1,l3,lv0,DU h1,DF KC h1,NE,DU h2,DF ag3 h2,encI0];exact⟨by rw[hcg],hx⟩
 .rw[if_pos hc] at hi
  obtain⟨h1,h2,h3⟩:=AGT hi;have hcg:MK v g=v.crs[g.idx].l[g.at_]:=by unfold MK; rw[hc,if_pos rfl,h3]
  simp -implicitDefEqProofs only[BC,DI];refine EZ (by kernel_rfl) ?_;simp -implicitDefEqProofs only[FZ,ED,DN,E8,EF,I7,FB,IY,D9,EE,BK,A8,CP,CG,AO,AA,AZ,AU,BH,BQ,BR,BJ,CE,AB,FV,↓reduceIte,jA,jK,jL,jG,jB,enP,N7,KX,JF,AIC,ACW,APN,l1,l3,lv1,DU h1,DF KC h1,NE,DU h2,DF ag3 h2,encI0];exact⟨by rw[hcg],hx⟩
theorem ARK (g:Gl):(KQ g).all AV.leaf=true:=rfl
theorem AUX (g:Gl):(UJ g).all AV.frozen=true:=rfl
theorem A34 (h:Hp):KJ Tryz.prog h 108=some (.ptr h.length 0 0,h++[.live 4 [[.bool false,.int .i64 0,.sl .nil 0 [],.int .i64 0]]]):=J8 (row:=[.bool false,.int .i64 0,.sl .nil 0 [],.int .i64 0]) (by kernel_rfl)
theorem A13 (h:Hp)(g:Gl)(row:List AV)(hr:row.length=4):FW Tryz.prog (h++[.live 4 [row]]) 108 (.ptr h.length 0 0) (.agg (KQ g))=some (h++[.live 4 [KQ g]]):=by
 rw[MV (TW (ARK g)) (by rw[SA]; exact ABC) (by rw[SA,hr]; exact jM _)];have:splice row 0 (KQ g)=KQ g:=by unfold splice; simp [SA,hr]
 rw[this]
theorem ldG {h:Hp}{b:Nat}{g:Gl}(hb:h[b]?=some (.live 4 [KQ g])):EH Tryz.prog h 108 (.ptr b 0 0)=some (.agg (KQ g)):=by
 rw[JY AV2 ABC hb rfl (by rw[SA]; exact jM 4)]; rfl
theorem ldH {h:Hp}{b:Nat}{g:Gl}(hb:h[b]?=some (.live 4 [KQ g])):EH Tryz.prog h 106 (.ptr b 0 0)=some (.agg (UJ g)):=by
 rw[JY A4F AOG hb rfl (by rw[SA]; omega)]; rfl
theorem A5M (h:Hp)(g:Gl):FY Tryz.prog false h 32 1 [(0,.agg (UJ g))]=some (.sl .full 3 [UJ g],h):=by
 have h1:Tryz.prog.underlying 32=some (.slice 106):=A1W;unfold FY;simp only[h1,AOG,A1R];have h2:XM 3 0 [(0,AV.agg (UJ g))]=some [UJ g]:=rfl;simp [h2,AUX]
def UE (m:Mo):Nat:=if EU m=0 then (goals m).length else 0
theorem AGF (G:Nat->AV)(hG:GOk G)(m:Mo)(hm:MoOk m)(h:Hp):PCall (En G) 22 [.agg (D6 m)] h (.int .i64 (UE m)):=by
 refine ACalls.pure0 rfl ?_;refine acN Tryz.func22 rfl ?_;show awp _ _ _ _ _ (EN _ [.tmp 2] _);simp -implicitDefEqProofs only[BC,BA,A8,AY,BB,AO,AQ,AL,BD,AX,AC,AA,AZ,AU,BX,BH,A7,FU,BQ,CB,BU,BZ,AB,BF,jD,jE,jF,↓reduceIte,jA,jB,jC,enP,bxM,ldM (CY h _)];refine(RP G hG m hm _).use ?_;simp -implicitDefEqProofs only[BI,A8,AY,BB,AO,AQ,AL,BD,AX,AC,AA,AZ,AU,BH,BR,AB,EK,↓reduceIte,jB,jC,enP];refine CU (fun h1=>?_) (fun h1=>?_)
 .simp -implicitDefEqProofs only[BC,BA,BK,A8,CP,CG,AY,BB,AO,AQ,AL,BD,AX,AC,AA,AU,BH,A7,↓reduceIte,jB,jC]
  exact⟨by unfold UE; rw[if_neg (by simpa using h1)]; rfl,_,rfl⟩
 have h1':EU m=0:=by simpa using h1
 simp -implicitDefEqProofs only[BC,BA,BO,A8,AY,AO,AQ,AL,BD,AX,AC,AA,AZ,BX,BQ,CB,BU,AB,jD,jE,jF,↓reduceIte,jA,jB,jC,enP,ldM (CY h _)];refine(YH G m hm (LX h1') _).use ?_;simp -implicitDefEqProofs only[BK,A8,CG,AY,BB,AO,AQ,AL,BD,AX,AC,AA,AZ,A7,D7,AB,↓reduceIte,jB,jC,enP,ATS,jI];exact⟨by unfold UE; rw[if_pos h1'],_,rfl⟩
theorem NQ {m:Mo}{v:Cvr}(hf:GK m v=true):EU m=0:=by
 unfold GK at hf;simp only[jV,beq_iff_eq] at hf;exact hf.1.1.1.1
def QH (m:Mo)(v:Cvr):Nat:=if GK m v=true then (goals m).countP (fun g=>decide (MK v g>0)) else 0
theorem AK9 {α:Type}(p:α->Bool)(xs:List α)(k:Nat)(hk:k<xs.length):(xs.take (k+1)).countP p=(xs.take k).countP p+(if p xs[k]=true then 1 else 0):=by
 rw[zL hk,List.countP_append]; simp
theorem AKT {α:Type}(p:α->Bool)(xs:List α)(k:Nat)(hk:k<xs.length):(xs.take (k+1)).filter p=(xs.take k).filter p++(if p xs[k]=true then [xs[k]] else []):=by
 rw[zL hk,List.filter_append]; simp [List.filter_cons]
theorem ADO (G:Nat->AV)(hG:GOk G)(hT:O7 G)(m:Mo)(v:Cvr)(hm:MoOk m)(hv:CvOk v)(h:Hp):PCall (En G) 24 [.agg (D6 m),.agg (ER v)] h (.int .i64 (QH m v)):=by
 refine ACalls.pure0 rfl ?_;refine acN Tryz.func24 rfl ?_;show awp _ _ _ _ _ (EN _ [.tmp 4] _);have t:=TwoV.mk' h m v;simp -implicitDefEqProofs only[BC,BA,A8,AY,BB,AO,AQ,AL,BD,AX,AC,AA,AZ,AU,BH,A7,FU,BQ,BZ,BF,BN,↓reduceIte,jA,jB,jC,enP,bxM,bxV]
 generalize h++[ABlk.live 2 [D6 m]]++[ABlk.live 4 [ER v]]=H at t|-
 generalize (h++[ABlk.live 2 [D6 m]]).length=vb at t|-
 simp -implicitDefEqProofs only[AY,AO,AQ,AL,BD,AX,AC,AA,AZ,BX,BQ,CB,BU,AB,jD,jE,jF,↓reduceIte,jA,jB,jC,enP,ldM t.gm,ldV t.gv];refine(AAR G hG hT m v hm hv _).use ?_;simp -implicitDefEqProofs only[BI,A8,AY,BB,AO,AQ,AL,BD,AX,AC,AA,AZ,IE,AB,FK,↓reduceIte,jB,jC];cases hf:GK m v
 .simp -implicitDefEqProofs only[BC,BA,BK,A8,CP,CG,DI,AY,BB,AO,AQ,AL,BD,AX,AC,AA,AU,BH,A7,↓reduceIte,jB,jC]
  exact⟨by unfold QH; rw[hf]; rfl,t.hx⟩
 have hg:=LX (NQ hf);have hgl:=AAO hg;have hin:∀g∈goals m,InR v g:=fun g hg'=>AT5 hf hg'
 simp -implicitDefEqProofs only[BC,BA,BO,A8,DT,AY,BB,AO,AQ,AL,BD,AX,AC,AA,AZ,AU,BX,BH,A7,BQ,CB,BU,AB,jD,jE,jF,↓reduceIte,jA,jB,jT,jC,enP,ldM t.gm];refine(YH G m hm hg _).use ?_;have hrn:QH m v=(goals m).countP (fun g=>decide (MK v g>0)):=by unfold QH; rw[if_pos hf]
 rw[hrn]
 generalize goals m=gs at hgl hin|-
 simp -implicitDefEqProofs only[BP,A8,AY,BB,AO,AQ,AL,BD,AX,AC,AA,AZ,AU,BH,BG,D7,AB,↓reduceIte,jB,jC,enP,ATS,jI];refine DK (fun n F H'=>∃k,n+k=gs.length∧F 3=.ptr vb 0 0∧F 5=.int .i64 ((gs.take k).countP (fun g=>decide (MK v g>0)):Nat)∧F 13=.sl (nm gs) 4 (gs.map KQ)∧F 14=.int .i64 gs.length∧F 15=.int .i64 (k:Nat)∧H'[vb]?=some (.live 4 [ER v])∧∃x,H'=h++x) gs.length ⟨0,by simp,by simp -implicitDefEqProofs only[AA,↓reduceIte,jA],by simp -implicitDefEqProofs only[AA,↓reduceIte,jA]; rfl,by simp -implicitDefEqProofs only[AA,↓reduceIte,jA],by simp -implicitDefEqProofs only[AA,↓reduceIte,jA],by simp -implicitDefEqProofs only[AA,↓reduceIte]; rfl,t.gv,t.hx⟩ ?_;rintro n F H' ⟨k,hk,f3,f5,f13,f14,f15,gv,x,rfl⟩;simp -implicitDefEqProofs only[BC,BA,BI,A8,AY,BB,AO,AQ,AL,BD,AX,AC,AA,AZ,BR,AB,DC,↓reduceIte,jB,jC,enP,f14,f15];refine CU (fun hc=>?_) (fun hc=>?_)
 .have hk':k<gs.length:=by simpa using hc
  have hcl:(gs.take k).countP (fun g=>decide (MK v g>0))<=k:=zZ (List.countP_le_length) (by simp; omega);have hct:=AK9 (fun g=>decide (MK v g>0)) gs k hk';simp -implicitDefEqProofs only[BC,BP,BA,BO,A8,AY,BB,AO,AQ,AL,BD,AX,AC,EM,AA,AZ,BX,FD,BQ,D5,CE,CB,BU,BZ,AB,CX,jD,jE,jF,↓reduceIte,jA,jB,jC,enP,AZR,jP,f3,f13,f15,DU hk',FM AV2 ABC SA hk',A34,A13 _ _ [.bool false,.int .i64 0,.sl .nil 0 [],.int .i64 0] rfl,ldG (CY (h++x) _),ldV (CV (x:=.live 4 [KQ gs[k]]) gv)];refine(XN G v gs[k] (hin _ (jS hk')) _).use ?_;simp -implicitDefEqProofs only[BI,A8,BB,AC,AA,AZ,↓reduceIte];cases hp:decide (MK v gs[k]>0)
  .simp -implicitDefEqProofs only[BA,BO,A8,EJ,EQ,DT,AY,BB,AO,AQ,AL,BD,AX,AC,AA,AZ,AU,BH,BG,BR,AB,CZ,↓reduceIte,jA,jB,jC,enP,f15,wrap_succ (show k<9223372036854775807 by omega)]
   refine⟨n-1,by omega,k+1,by omega,f3,?_,f13,f14,rfl,CV gv,_,zA _ _ _⟩;rw[hct,hp]; exact f5
  .simp -implicitDefEqProofs only[BA,A8,EJ,EQ,DI,AY,BB,AO,AQ,AL,BD,AX,AC,AA,AZ,AU,BH,BG,A7,BR,AB,CZ,↓reduceIte,jA,jB,jC,enP,f5,f15,wrap_succ (show k<9223372036854775807 by omega),wrap_succ (show(gs.take k).countP (fun g=>decide (MK v g>0))<9223372036854775807 by omega)]
   refine⟨n-1,by omega,k+1,by omega,f3,?_,f13,f14,rfl,CV gv,_,zA _ _ _⟩;rw[hct,hp]; rfl
 .have hk':¬k<gs.length:=by simpa using hc
  rw[jX (by omega)] at f5;simp -implicitDefEqProofs only[BC,BA,BK,DJ,A8,EI,EW,ET,CG,AY,BB,AO,AQ,AL,BD,AX,AC,AA,AZ,BG,A7,↓reduceIte,jA,jB,jC,f5];exact⟨trivial,x,rfl⟩
def PO (m:Mo)(v:Cvr):List Gl:=if GK m v=true then (goals m).filter (fun g => !decide (MK v g>0)) else []
theorem AMV (G:Nat->AV)(hG:GOk G)(hT:O7 G)(m:Mo)(v:Cvr)(hm:MoOk m)(hv:CvOk v)(h:Hp):PCall (En G) 29 [.agg (D6 m),.agg (ER v)] h (.sl (nm (PO m v)) 3 ((PO m v).map UJ)):=by
 refine MW A44 ?_;refine acN Tryz.func29 rfl ?_;show awp _ _ _ _ _ (EN _ [.tmp 4] _);have t:=TwoV.mk' h m v;have hvb:h.length<(h++[ABlk.live 2 [D6 m]]).length:=by simp
 simp -implicitDefEqProofs only[BC,BA,A8,AY,BB,AO,AQ,AL,BD,AX,AC,AA,AZ,AU,IK,A7,FU,BQ,BZ,BF,BN,↓reduceIte,jA,jB,jC,enP,bxM,bxV]
 generalize h++[ABlk.live 2 [D6 m]]++[ABlk.live 4 [ER v]]=H at t|-
 generalize (h++[ABlk.live 2 [D6 m]]).length=vb at t hvb|-
 simp -implicitDefEqProofs only[AY,AO,AQ,AL,BD,AX,AC,AA,AZ,BX,BQ,CB,BU,AB,jD,jE,jF,↓reduceIte,jA,jB,jC,enP,ldM t.gm,ldV t.gv];refine(AAR G hG hT m v hm hv _).use ?_;simp -implicitDefEqProofs only[BI,A8,AY,BB,AO,AQ,AL,BD,AX,AC,AA,AZ,IE,AB,FK,↓reduceIte,jB,jC];cases hf:GK m v
 .simp -implicitDefEqProofs only[BC,BA,BK,A8,CP,CG,DI,AY,BB,AO,AQ,AL,BD,AX,AC,AA,AU,IK,A7,↓reduceIte,jB,jC]
  have:PO m v=[]:=by unfold PO; rw[hf]; rfl
  rw[this];exact⟨t.hx,outG.nil _ _ _ _⟩
 have hg:=LX (NQ hf);have hgl:=AAO hg;have hin:∀g∈goals m,InR v g:=fun g hg'=>AT5 hf hg'
 simp -implicitDefEqProofs only[BC,BA,BO,A8,DT,AY,BB,AO,AQ,AL,BD,AX,AC,AA,AZ,AU,BX,IK,A7,BQ,CB,BU,AB,jD,jE,jF,↓reduceIte,jA,jB,jT,jC,enP,ldM t.gm];refine(YH G m hm hg _).use ?_;have hrn:PO m v=(goals m).filter (fun g => !decide (MK v g>0)):=by unfold PO; rw[if_pos hf]
 rw[hrn]
 generalize goals m=gs at hgl hin|-
 simp -implicitDefEqProofs only[BP,A8,AY,BB,AO,AQ,AL,BD,AX,AC,AA,AZ,AU,BH,BG,D7,AB,↓reduceIte,jB,jC,enP,ATS,jI];refine DK (fun n F H'=>∃k,n+k=gs.length∧F 3=.ptr vb 0 0∧F 13=.sl (nm gs) 4 (gs.map KQ)∧F 14=.int .i64 gs.length∧F 15=.int .i64 (k:Nat)∧H'[vb]?=some (.live 4 [ER v])∧ext h H'∧(∀b,isB (F 5) b->vb<b)∧outG 3 UJ h ((gs.take k).filter (fun g => !decide (MK v g>0))) (F 5) H') gs.length ⟨0,by simp,by simp -implicitDefEqProofs only[AA,↓reduceIte,jA],by simp -implicitDefEqProofs only[AA,↓reduceIte,jA],by simp -implicitDefEqProofs only[AA,↓reduceIte,jA],by simp -implicitDefEqProofs only[AA,↓reduceIte]; rfl,t.gv,t.hx,fun b hb=>hb.elim,outG.nil _ _ _ _⟩ ?_;rintro n F H' ⟨k,hk,f3,f13,f14,f15,gv,he,hlt,ho⟩;simp -implicitDefEqProofs only[BC,BA,BI,A8,AY,BB,AO,AQ,AL,BD,AX,AC,AA,AZ,BR,AB,DC,↓reduceIte,jB,jC,enP,f14,f15];refine CU (fun hc=>?_) (fun hc=>?_)
 .have hk':k<gs.length:=by simpa using hc
  have hcl:((gs.take k).filter (fun g => !decide (MK v g>0))).length<=k:=zZ (List.length_filter_le _ _) (by simp; omega);have hct:=AKT (fun g => !decide (MK v g>0)) gs k hk';have ho1:=ho.app [.live 4 [KQ gs[k]]];have he1:ext h (H'++[.live 4 [KQ gs[k]]]):=he.app _;simp -implicitDefEqProofs only[BC,BP,BA,BO,A8,AY,BB,AO,AQ,AL,BD,AX,AC,EM,AA,AZ,BX,FD,BQ,D5,CE,CB,BU,BZ,AB,CX,jD,jE,jF,↓reduceIte,jA,jB,jC,enP,AZR,jP,f3,f13,f15,DU hk',FM AV2 ABC SA hk',A34,A13 _ _ [.bool false,.int .i64 0,.sl .nil 0 [],.int .i64 0] rfl,ldG (CY H' _),ldV (CV (x:=.live 4 [KQ gs[k]]) gv)];refine(XN G v gs[k] (hin _ (jS hk')) _).use ?_;simp -implicitDefEqProofs only[BI,A8,AY,BB,AO,AQ,AL,BD,AX,AC,AA,AZ,IE,AB,FK,↓reduceIte,jB,jC];cases hp:decide (MK v gs[k]>0)
  .obtain⟨v',H2,ha,ho',hkeep,he',hle,hb'⟩:=ho1.append A1W AOG A1R A5J (by omega) (by omega) he1 gs[k]
   simp -implicitDefEqProofs only[EY,FT,BA,DI,AY,AO,AQ,AL,BD,AX,AC,AA,AZ,BG,EP,BQ,BJ,GR,BZ,AB,↓reduceIte,jA,jL,jB,jC,enP,ACW,ldH (CY H' (.live 4 [KQ gs[k]])),A5M];refine HY (v:=v') (h:=H2) ha ?_;simp -implicitDefEqProofs only[BA,A8,EJ,EQ,AY,BB,AO,AQ,AL,BD,AX,AC,AA,AZ,AU,BH,BG,A7,BR,AB,CZ,↓reduceIte,jA,jB,jC,enP,f15,wrap_succ (show k<9223372036854775807 by omega)];refine⟨n-1,by omega,k+1,by omega,f3,f13,f14,rfl,hkeep _ _ (CV gv) (fun e=>by have:=hlt _ e; omega),he',fun b hbb=>?_,?_⟩
   .have h1:=hb' b hbb; have h2:=CJ gv; rw[h1]; simp; omega
   .rw[hct,hp]; exact ho'
  .simp -implicitDefEqProofs only[BA,BO,A8,EJ,EQ,DT,AY,BB,AO,AQ,AL,BD,AX,AC,AA,AZ,AU,BH,BG,BR,AB,CZ,↓reduceIte,jA,jB,jT,jC,enP,f15,wrap_succ (show k<9223372036854775807 by omega)]
   refine⟨n-1,by omega,k+1,by omega,f3,f13,f14,rfl,CV gv,he1,hlt,?_⟩;rw[hct,hp];simp only[jT,jY,if_false,jF];exact ho1
 .have hk':¬k<gs.length:=by simpa using hc
  rw[jX (by omega)] at ho;simp -implicitDefEqProofs only[BC,BA,BK,DJ,A8,EI,EW,ET,CG,AY,BB,AO,AQ,AL,BD,AX,AC,AA,AZ,BG,A7,↓reduceIte,jA,jB,jC];exact⟨he,ho⟩
theorem AJV {m:Mo}{v:Cvr}(hf:GK m v=true):QH m v+(PO m v).length=UE m:=by
 unfold QH PO UE;rw[if_pos hf,if_pos hf,if_pos (NQ hf)];generalize goals m=gs
 induction gs with
 | nil=>rfl
 | cons g gs ih =>
   cases hp:decide (MK v g>0)
   .simp only[List.countP_cons,List.filter_cons,hp,qQ,jC,if_true,jY,if_false] at ih|-
    omega
   .simp only[List.countP_cons,List.filter_cons,hp,qQ,jT,if_true,jY,if_false] at ih|-
    omega
theorem AUD {m:Mo}:UE m<=8192:=by
 unfold UE;split
 .rename_i h; exact AAO (LX h)
 .omega
def AJ6 (m:Mo)(v:Cvr):Nat:=if GK m v=true then (if UE m=0 then 100 else 100*QH m v/UE m) else 0
theorem AQO {m:Mo}{v:Cvr}(hf:GK m v=true):QH m v<=UE m:=by have:=AJV hf; omega
theorem AQQ (G:Nat->AV)(hG:GOk G)(hT:O7 G)(m:Mo)(v:Cvr)(hm:MoOk m)(hv:CvOk v)(h:Hp):PCall (En G) 26 [.agg (D6 m),.agg (ER v)] h (.int .i64 (AJ6 m v)):=by
 refine ACalls.pure0 rfl ?_;refine acN Tryz.func26 rfl ?_;show awp _ _ _ _ _ (EN _ [.tmp 4] _);have t:=TwoV.mk' h m v;simp -implicitDefEqProofs only[BC,BA,A8,AY,BB,AO,AQ,AL,BD,AX,AC,AA,AZ,AU,BH,A7,FU,BQ,BZ,BF,BN,↓reduceIte,jA,jB,jC,enP,bxM,bxV]
 generalize h++[ABlk.live 2 [D6 m]]++[ABlk.live 4 [ER v]]=H at t|-
 generalize (h++[ABlk.live 2 [D6 m]]).length=vb at t|-
 simp -implicitDefEqProofs only[AY,AO,AQ,AL,BD,AX,AC,AA,AZ,BX,BQ,CB,BU,AB,jD,jE,jF,↓reduceIte,jA,jB,jC,enP,ldM t.gm,ldV t.gv];refine(AAR G hG hT m v hm hv _).use ?_;simp -implicitDefEqProofs only[BI,A8,AY,BB,AO,AQ,AL,BD,AX,AC,AA,AZ,IE,AB,FK,↓reduceIte,jB,jC];cases hf:GK m v
 .simp -implicitDefEqProofs only[BC,BA,BK,A8,CP,CG,DI,AY,BB,AO,AQ,AL,BD,AX,AC,AA,AU,BH,A7,↓reduceIte,jB,jC]
  exact⟨by unfold AJ6; rw[hf]; rfl,t.hx⟩
 have hgn:=AUD (m:=m);have hrl:=AQO hf;simp -implicitDefEqProofs only[BC,BA,BO,A8,DT,AY,AO,AQ,AL,BD,AX,AC,AA,AZ,BX,BQ,CB,BU,AB,jD,jE,jF,↓reduceIte,jA,jB,jT,jC,enP,ldM t.gm];refine(AGF G hG m hm _).use ?_;simp -implicitDefEqProofs only[BC,BA,BI,A8,AY,BB,AO,AQ,AL,BD,AX,AC,AA,AZ,AU,BH,BG,A7,BR,AB,EC,↓reduceIte,jB,jC,enP];refine CU (fun h2=>?_) (fun h2=>?_)
 .simp -implicitDefEqProofs only[BC,BA,BK,A8,CP,CG,AY,BB,AO,AQ,AL,BD,AX,AC,AA,AU,BH,A7,↓reduceIte,jB,jC]
  have:UE m=0:=by simpa using h2
  exact⟨by unfold AJ6; rw[if_pos hf,if_pos this]; rfl,t.hx⟩
 have hg0:UE m≠0:=by simpa using h2
 have hw:IntKind.i64.wrap (100*(QH m v:Int))=((100*QH m v:Nat):Int):=by
  rw[wrap_i64 (by omega) (by omega)]; omega
 simp -implicitDefEqProofs only[BC,BA,BO,A8,AY,AO,AQ,AL,BD,AX,AC,AA,AZ,BX,BQ,CB,BU,AB,jD,jE,jF,↓reduceIte,jA,jB,jC,enP,ldM t.gm,ldV t.gv];refine(ADO G hG hT m v hm hv _).use ?_;simp -implicitDefEqProofs only[BK,A8,CG,AY,BB,AO,AQ,AL,BD,AX,AC,AA,AZ,AU,BH,BG,A7,BR,AB,PZ,↓reduceIte,jA,jB,jC,enP,hw,ACO _ _ (Nat.pos_of_ne_zero hg0) (show 100*QH m v<=9223372036854775807 by omega)];exact⟨by unfold AJ6; rw[if_pos hf,if_neg hg0],t.hx⟩
structure Three (h H:Hp) (m:Mo) (a b:Cvr) (ab bb:Nat):Prop where
 gm:H[h.length]?=some (.live 2 [D6 m])
 ga:H[ab]?=some (.live 4 [ER a])
 gb:H[bb]?=some (.live 4 [ER b])
 hx:∃x,H=h++x
theorem Three.mk' (h:Hp)(m:Mo)(a b:Cvr):Three h (h++[.live 2 [D6 m]]++[.live 4 [ER a]]++[.live 4 [ER b]]) m a b (h++[ABlk.live 2 [D6 m]]).length (h++[ABlk.live 2 [D6 m]]++[ABlk.live 4 [ER a]]).length :=
 ⟨CV (CV (CY _ _)),CV (CY _ _),CY _ _,⟨_,by rw[zA,zA]⟩⟩
theorem A26 (g:Gl):(UJ g)[0]?=some (.bool g.cross):=rfl
theorem A25 (g:Gl):(UJ g)[1]?=some (.int .i64 (g.idx:Int)):=rfl
theorem AUY (g:Gl):(UJ g)[2]?=some (.sl g.bm 1 (g.bins.map encI)):=rfl
def eqG (a b:Gl):Bool:=(a.cross==b.cross)&&((a.idx:Int)==(b.idx:Int))&&eqL a.bins b.bins
def eqH:List Gl->List Gl->Bool
 | [],[]=>true
 | a::ws,b::bs=>eqG a b&&eqH ws bs
 | _,_=>false
theorem APP:∀ {a b:List Gl},eqH a b=true->a.length=b.length
 | [],[],_=>rfl
 | a::ws,b::bs,h=>by
   simp only[eqH,jV] at h;simp [APP h.2]
 | [],_::_,h=>by cases h
 | _::_,[],h=>by cases h
theorem AQG (G:Nat->AV)(a b:List Gl)(s t:SM)(h:Hp)(ha:a.length<=1048576)(hb:∀g∈a,g.bins.length<=1048576):PCall (En G) 28 [.sl s 3 (a.map UJ),.sl t 3 (b.map UJ)] h (.bool (eqH a b)):=by
 refine acN Tryz.func28 rfl ?_;show awp _ _ _ _ _ (EN _ [.tmp 4] _);simp -implicitDefEqProofs only[BC,BA,BI,A8,AY,BB,AO,AQ,AL,BD,AX,AC,AA,AZ,AU,BM,BG,A7,BR,D7,AB,EK,BF,BN,↓reduceIte,jA,jB,jC,enP,A2T,jI];refine CU (fun h1=>?_) (fun h1=>?_)
 .simp -implicitDefEqProofs only[BC,BA,BK,A8,CP,CG,AY,BB,AO,AQ,AL,BD,AX,AC,AA,AU,BM,A7,↓reduceIte,jB,jC]
  have:eqH a b=false:=by
   rw[<-qN]; intro e;have:=APP e;simp [this] at h1
  exact⟨by rw[this],trivial⟩
 have hab:a.length=b.length:=by simp at h1; omega
 simp -implicitDefEqProofs only[BC,BP,BA,BO,A8,AY,BB,AO,AQ,AL,BD,AX,AC,AU,BH,A7,jB,jC];refine DK (fun n F H=>∃i,n+i=a.length∧F 0=.sl s 3 (a.map UJ)∧F 1=.sl t 3 (b.map UJ)∧F 5=.int .i64 (i:Nat)∧H=h∧eqH a b=eqH (a.drop i) (b.drop i)) a.length ⟨0,by simp,by simp -implicitDefEqProofs only[AA,BF,↓reduceIte,jA],by simp -implicitDefEqProofs only[AA,BF,BN,↓reduceIte,jA],by simp -implicitDefEqProofs only[AA,↓reduceIte]; rfl,rfl,rfl⟩ ?_;rintro n F H ⟨i,hi,f0,f1,f5,rfl,he⟩;simp -implicitDefEqProofs only[BC,BA,BI,A8,AY,BB,AO,AQ,AL,BD,AX,AC,AA,AZ,BG,BR,D7,AB,DC,↓reduceIte,jA,jB,jC,enP,A2T,f0,f5,jI];refine CU (fun hc=>?_) (fun hc=>?_)
 .have hi':i<a.length:=by simpa using hc
  have hib:i<b.length:=by omega
  have hbl:=hb _ (jS hi');rw[zJ hi',zJ hib] at he;have he':eqH a b=(eqG a[i] b[i]&&eqH (a.drop (i+1)) (b.drop (i+1))):=he;simp -implicitDefEqProofs only[BC,BP,BO,A8];refine EZ (by kernel_rfl) ?_;simp -implicitDefEqProofs only[FZ,ED,DN,EF,FN,GI,FO,FB,IY,D9,EE,CO,AO,AA,AZ,BQ,BR,BJ,CE,AB,↓reduceIte,jA,jK,jL,jB,enP,bn4,AT1,APO,bne,f0,f1,f5,DU hi',DU hib,DF ag4 hi',DF ag4 hib,A26];cases c1:(a[i].cross==b[i].cross)
  .simp -implicitDefEqProofs only[FZ,ED,DN,E8,EF,FN,GI,Z4,FO,I5,BC,BA,BK,BI,A8,CP,EG,FQ,CG,DI,AY,BB,CO,AO,AQ,AL,BD,AX,AC,AA,EX,AZ,AU,BM,A7,CQ,DY,↓reduceIte,jA,jK,jB,jC]
   exact⟨by rw[he']; unfold eqG; rw[c1]; rfl,trivial⟩
  simp -implicitDefEqProofs only[FZ,ED,DN,EF,FN,GI,UO,FO,I5,FB,IY,D9,EE,CO,AO,AA,AZ,AU,BM,CQ,DX,BQ,BR,BJ,CE,AB,EK,↓reduceIte,jA,jK,jG,jB,jT,enP,AT1,AIC,bne,f0,f1,f5,DU hi',DU hib,DF ag3 hi',DF ag3 hib,A25];cases c2:((a[i].idx:Int)==(b[i].idx:Int))
  .simp -implicitDefEqProofs only[FZ,ED,DN,E8,EF,FN,GI,Z4,I5,BC,BA,BK,BI,A8,CP,EG,FQ,CG,DI,AY,BB,CO,AO,AQ,AL,BD,AX,AC,AA,EX,AZ,AU,BM,A7,CQ,DY,↓reduceIte,jA,jK,jB,jC]
   exact⟨by rw[he']; unfold eqG; rw[c1,c2]; rfl,trivial⟩
  have hg:eqG a[i] b[i]=eqL a[i].bins b[i].bins:=by unfold eqG; rw[c1,c2]; rfl
  rw[hg] at he';simp -implicitDefEqProofs only[FZ,ED,DN,E8,EF,FN,GI,UO,FO,I5,FB,IY,D9,EE,IC,BI,A8,CO,AO,AA,AZ,AU,BM,CQ,DX,BQ,BR,BJ,CE,D7,AB,EK,↓reduceIte,jA,jK,jG,jB,jT,enP,AT1,JA,AIB,bne,f0,f1,f5,DU hi',DU hib,DF KC hi',DF KC hib,AUY,jI];cases c3:((a[i].bins.length:Int)==(b[i].bins.length:Int))
  .simp -implicitDefEqProofs only[BC,BA,BK,A8,CP,EG,FQ,CG,DI,AY,BB,AO,AQ,AL,BD,AX,AC,AA,AU,BM,A7,↓reduceIte,jB,jC]
   have:eqL a[i].bins b[i].bins=false:=by
    unfold eqL; rw[decide_eq_false_iff_not]; intro e; rw[e] at c3; simp at c3
   exact⟨by rw[he',this]; rfl,trivial⟩
  have hbb:a[i].bins.length=b[i].bins.length:=by simp at c3; omega
  simp -implicitDefEqProofs only[BC,BP,BA,BO,A8,DT,AY,BB,AO,AQ,AL,BD,AX,AC,AU,BH,A7,jB,jT,jC];refine GN 2 (fun F' H'=>F' 0=.sl s 3 (a.map UJ)∧F' 1=.sl t 3 (b.map UJ)∧F' 5=.int .i64 (i:Nat)∧H'=H∧eqL a[i].bins b[i].bins=true) (fun F' H'=>F' 4=.bool false∧H'=H∧eqL a[i].bins b[i].bins=false) ?_ ?_ ?_
  .refine DK (fun n F' H'=>∃k,n+k=a[i].bins.length∧F' 0=.sl s 3 (a.map UJ)∧F' 1=.sl t 3 (b.map UJ)∧F' 5=.int .i64 (i:Nat)∧F' 6=.int .i64 (k:Nat)∧H'=H∧eqL a[i].bins b[i].bins=eqL (a[i].bins.drop k) (b[i].bins.drop k)) a[i].bins.length ⟨0,by simp,by simp -implicitDefEqProofs only[AA,↓reduceIte,jA,f0],by simp -implicitDefEqProofs only[AA,↓reduceIte,jA,f1],by simp -implicitDefEqProofs only[AA,↓reduceIte,jA,f5],by simp -implicitDefEqProofs only[AA,↓reduceIte]; rfl,rfl,rfl⟩ ?_
   clear f0 f1 f5;rintro n' F H' ⟨k,hk,f0,f1,f5,f6,rfl,hl⟩;simp -implicitDefEqProofs only[BC,BA,BI,A8,AY,BB,AO,AQ,AL,BD,AX,AC,AA,AZ,BG,BQ,BR,BJ,CE,D7,AB,DC,↓reduceIte,jA,jG,jB,jC,enP,AT1,JA,AIB,f0,f5,f6,DU hi',DF KC hi',AUY,jI];refine CU (fun hc=>?_) (fun hc=>?_)
   .have hk':k<a[i].bins.length:=by simpa using hc
    have hkb:k<b[i].bins.length:=by omega
    rw[AEJ hk' hkb] at hl;simp -implicitDefEqProofs only[BC,BP,BO,A8];refine EZ (by kernel_rfl) ?_;simp -implicitDefEqProofs only[FZ,ED,DN,E8,EF,FO,FB,IY,D9,EE,BI,A8,AO,AA,AZ,BQ,BR,BJ,CE,AB,EK,↓reduceIte,jA,jK,jG,jB,enP,AT1,JF,AIB,f0,f1,f5,f6,DU hi',DU hib,DF KC hi',DF KC hib,AUY,DU hk',DU hkb,DF ag3 hk',DF ag3 hkb,encI0];refine CU (fun hd=>?_) (fun hd=>?_)
    .simp -implicitDefEqProofs only[BC,BA,BK,A8,CP,EG,NG,FQ,AY,BB,AO,AQ,AL,BD,AX,AC,AA,AU,BM,A7,↓reduceIte,jB,jC]
     have:decide (a[i].bins[k]=b[i].bins[k])=false:=by simpa using hd
     exact⟨trivial,trivial,by rw[hl,this]; rfl⟩
    .simp -implicitDefEqProofs only[BA,BO,A8,EJ,EQ,AY,BB,AO,AQ,AL,BD,AX,AC,AA,AZ,AU,BH,BG,A7,BR,AB,CZ,↓reduceIte,jA,jB,jC,enP,f6,wrap_succ (show k<9223372036854775807 by omega)]
     have:decide (a[i].bins[k]=b[i].bins[k])=true:=by simpa using hd
     exact⟨n'-1,by omega,k+1,by omega,f0,f1,f5,rfl,trivial,by rw[hl,this]; rfl⟩
   .have hk':¬k<a[i].bins.length:=by simpa using hc
    simp -implicitDefEqProofs only[DJ,EI,J3,ET,AA,↓reduceIte,jA];exact⟨f0,f1,f5,trivial,by rw[hl,jW (by omega),jW (by omega)]; rfl⟩
  .rintro F' H' ⟨g0,g1,g5,rfl,hl⟩
   simp -implicitDefEqProofs only[BA,A8,EJ,EW,EQ,AY,BB,AO,AQ,AL,BD,AX,AC,AA,AZ,AU,BH,BG,A7,BR,AB,CZ,↓reduceIte,jA,jB,jC,enP,g5,wrap_succ (show i<9223372036854775807 by omega)];exact⟨n-1,by omega,i+1,by omega,g0,g1,rfl,trivial,by rw[he',hl]; rfl⟩
  .rintro F' H' ⟨g4,rfl,hl⟩
   simp -implicitDefEqProofs only[CP,EG,FQ,CG,g4];exact⟨by rw[he',hl]; rfl,trivial⟩
 .have hi':¬i<a.length:=by simpa using hc
  simp -implicitDefEqProofs only[BC,BA,BK,DJ,A8,EI,EW,ET,CG,AY,BB,AO,AQ,AL,BD,AX,AC,AA,AU,BM,A7,↓reduceIte,jB,jC];exact⟨by rw[he,jW (by omega),jW (by omega)]; rfl,trivial⟩
def mkB (name:ByteArray)(kind lo hi:Int):Bin:=⟨name,kind,⟨.full,[⟨lo,hi⟩]⟩,.nil,[]⟩
theorem A30 (a b:Int):LQ Tryz.prog 185 [(0,.int .i64 a),(1,.int .i64 b)]=some (.agg [.int .i64 a,.int .i64 b]):=by kernel_rfl
theorem A3J (h:Hp)(a b:Int):FY Tryz.prog false h 118 1 [(0,.agg [.int .i64 a,.int .i64 b])]=some (.sl .full 2 [[.int .i64 a,.int .i64 b]],h):=by kernel_rfl
theorem A5N (s:ByteArray)(k:Int)(xs:List (List AV)):LQ Tryz.prog 121 [(0,.str s),(1,.int .i64 k),(2,.sl .full 2 xs)]=some (.agg [.str s,.int .i64 k,.sl .full 2 xs,.sl .nil 0 []]):=by kernel_rfl
def rowB (s:ByteArray)(k lo hi:Int):List AV:=[.str s,.int .i64 k,.sl .full 2 [[.int .i64 lo,.int .i64 hi]],.sl .nil 0 []]
theorem A12 (h:Hp)(s:ByteArray)(k lo hi:Int)(row:List AV)(hr:row.length=4):FW Tryz.prog (h++[.live 4 [row]]) 121 (.ptr h.length 0 0) (.agg [.str s,.int .i64 k,.sl .full 2 [[.int .i64 lo,.int .i64 hi]],.sl .nil 0 []])=some (h++[.live 4 [rowB s k lo hi]]):=by
 have h1:=MV (P:=Tryz.prog) (t:=121) (h:=h) (k:=4) (j:=0) (row:=row) (cs:=rowB s k lo hi) (v:=.agg (rowB s k lo hi)) rfl QK (by rw[hr]; exact jM 4);have h2:splice row 0 (rowB s k lo hi)=rowB s k lo hi:=by unfold splice; simp [hr,rowB]
 rw[h2] at h1;exact h1
theorem AIQ (G:Nat->AV)(s:ByteArray)(k lo hi:Int)(h:Hp):PCall (En G) 145 [.str s,.int .i64 k,.int .i64 lo,.int .i64 hi] h (.agg (GV (mkB s k lo hi))):=by
 have hp:PCall (En G) 145 [.str s,.int .i64 k,.int .i64 lo,.int .i64 hi] h (.agg (rowB s k lo hi)):=by
  refine ACalls.pure 2 (R:=fun v H=>v=.agg (rowB s k lo hi)∧∃x,H=h++x) ?_ (fun v h' ⟨e,x⟩=>⟨x,by subst e; rfl⟩);refine acN Tryz.func145 rfl ?_;show awp _ _ _ _ _ (EN _ [.cell 8 121] _);simp -implicitDefEqProofs only[EY,FT,BC,BA,BK,A8,AY,BB,AO,AQ,AL,BD,AX,AC,EM,AA,AZ,BG,FD,G9,EP,D5,BZ,AB,CX,BF,BN,↓reduceIte,jA,jB,jC,enP,jP,AY3,A30,A3J,A5N,A12 _ _ _ _ _ [.str ⟨#[]⟩,.int .i64 0,.sl .nil 0 [],.sl .nil 0 []] rfl];refine⟨trivial,.agg (rowB s k lo hi),?_,rfl,_,rfl⟩;exact WX (P:=Tryz.prog) (h:=h) (k:=4) (row:=rowB s k lo hi) VF QK (jM 4)
 exact hp.res (CvR.agg (CvRL.cons (CvR.refl _) (CvRL.cons (CvR.refl _) (CvRL.cons (CvR.refl _) (CvRL.cons (CvR.sl (Cv.nil 0 1)) CvRL.nil)))))
def A22:Ex:=.mk 2 0 ⟨#[97]⟩ .nil []
def exP:Pt:=⟨⟨#[112]⟩,A22,.full,[mkB ⟨#[108,111,119]⟩ 0 0 3,mkB ⟨#[104,105,103,104]⟩ 0 4 7,mkB ⟨#[110,111,110,101]⟩ 1 9 9]⟩
def exM:Mo:=⟨.full,[exP],.nil,[]⟩
def exV:Cvr:=⟨.full,[⟨.full,[3,0,0]⟩],.nil,[],3,0⟩
theorem AYE:UE exM=2:=by decide +kernel
theorem AUL:QH exM exV=1:=by decide +kernel
theorem AYC:AJ6 exM exV=50:=by decide +kernel
theorem A5P (n:Int)(s:ByteArray):LQ Tryz.prog 53 [(0,.int .i64 n),(2,.str s)]=some (.agg [.int .i64 n,.int .i64 0,.str s,.sl .nil 0 []]):=by kernel_rfl
theorem A5L (h:Hp)(a b c:Bin):FY Tryz.prog false h 54 3 [(0,.agg (GV a)),(1,.agg (GV b)),(2,.agg (GV c))]=some (.sl .full 4 [GV a,GV b,GV c],h):=by
 have h1:Tryz.prog.underlying 54=some (.slice 121):=by kernel_rfl
 have h3:UR Tryz.prog 121=some 4:=by kernel_rfl
 unfold FY;simp only[h1,QK,h3];have h2:XM 4 0 [(0,AV.agg (GV a)),(1,AV.agg (GV b)),(2,AV.agg (GV c))]=some [GV a,GV b,GV c]:=rfl;have fr:∀x:Bin,(GV x).all AV.frozen=true:=fun _=>rfl
 simp [h2,fr]
theorem A5O (s t:ByteArray)(n:Int)(xs:List (List AV)):LQ Tryz.prog 56 [(0,.str s),(1,.agg [.int .i64 n,.int .i64 0,.str t,.sl .nil 0 []]),(2,.sl .full 4 xs)]=some (.agg [.str s,.int .i64 n,.int .i64 0,.str t,.sl .nil 0 [],.sl .full 4 xs]):=by kernel_rfl
theorem A3O (h:Hp)(s t:ByteArray)(n:Int)(xs:List (List AV)):FY Tryz.prog false h 22 1 [(0,.agg [.str s,.int .i64 n,.int .i64 0,.str t,.sl .nil 0 [],.sl .full 4 xs])]=some (.sl .full 6 [[.str s,.int .i64 n,.int .i64 0,.str t,.sl .nil 0 [],.sl .full 4 xs]],h):=by kernel_rfl
theorem A5Q (xs:List (List AV)):LQ Tryz.prog 25 [(0,.sl .full 6 xs)]=some (.agg [.sl .full 6 xs,.sl .nil 0 []]):=by kernel_rfl
theorem A35 (h:Hp):KJ Tryz.prog h 25=some (.ptr h.length 0 0,h++[.live 2 [[.sl .nil 0 [],.sl .nil 0 []]]]):=J8 (row:=[.sl .nil 0 [],.sl .nil 0 []]) (by kernel_rfl)
def AAI:List AV:=[.sl .full 6 [[.str ⟨#[112]⟩,.int .i64 2,.int .i64 0,.str ⟨#[97]⟩,.sl .nil 0 [],.sl .full 4 (exP.bins.map GV)]],.sl .nil 0 []]
theorem A15 (h:Hp)(row:List AV)(hr:row.length=2):FW Tryz.prog (h++[.live 2 [row]]) 25 (.ptr h.length 0 0) (.agg AAI)=some (h++[.live 2 [AAI]]):=by
 have h1:=MV (P:=Tryz.prog) (t:=25) (h:=h) (k:=2) (j:=0) (row:=row) (cs:=AAI) (v:=.agg AAI) rfl AWK (by rw[hr]; exact jM 2);have h2:splice row 0 AAI=AAI:=by unfold splice; simp [hr,AAI]
 rw[h2] at h1;exact h1
theorem AQJ:CvR (.agg AAI) (.agg (D6 exM)):=by
 refine CvR.agg (CvRL.cons (CvR.sl (Cv.rows rfl ?_)) (CvRL.cons (CvR.sl (Cv.nil 0 3)) CvRL.nil));intro i r r' h1 h2
 match i,h1,h2 with
 | 0,h1,h2 =>
   cases h1; cases h2;exact CvRow.cons rfl (Cv.refl _) (CvRow.cons rfl (Cv.refl _) (CvRow.cons rfl (Cv.refl _) (CvRow.cons rfl (Cv.refl _) (CvRow.cons rfl (Cv.nil 0 4) (CvRow.cons rfl (Cv.refl _) CvRow.nil)))))
 | _+1,h1,_=>cases h1
theorem sample (G:Nat->AV)(h:Hp):PCall (En G) 84 [] h (.agg (D6 exM)):=by
 have hp:PCall (En G) 84 [] h (.agg AAI):=by
  refine ACalls.pure 2 (R:=fun v H=>v=.agg AAI∧∃x,H=h++x) ?_ (fun v h' ⟨e,x⟩=>⟨x,by subst e; rfl⟩);refine acN Tryz.func84 rfl ?_;show awp _ _ _ _ _ (EN _ [.cell 0 25] _);simp -implicitDefEqProofs only[EY,FT,BC,BA,A8,AY,BB,AO,AQ,AL,BD,AX,AC,AU,BX,BH,JM,FD,G9,CB,BU,BZ,AB,jD,jE,jF,jB,jC,enP,A35,A5P];refine(AIQ G _ _ _ _ _).use ?_;simp -implicitDefEqProofs only[AY,AO,AQ,AL,BD,AX,AC,AU,BX,BH,JM,CB,BU,jD,jE,jF,jB,jC];refine(AIQ G _ _ _ _ _).use ?_;simp -implicitDefEqProofs only[AY,AO,AQ,AL,BD,AX,AC,AU,BX,BH,JM,CB,BU,jD,jE,jF,jB,jC];refine(AIQ G _ _ _ _ _).use ?_;simp -implicitDefEqProofs only[EY,FT,AY,AO,AQ,AL,BD,AX,AC,AA,AZ,AU,JM,G9,EP,D5,BZ,AB,↓reduceIte,jA,jB,jC,enP,jP,A5L,A5O,A3O,A5Q]
  refine HY (v:=IU) (h:=h++[.live 2 [AAI]]) (by
   have:=A15 h [.sl .nil 0 [],.sl .nil 0 []] rfl
   exact congrArg ofS this) ?_
  simp -implicitDefEqProofs only[BK,A8,BB,EM];refine⟨trivial,.agg AAI,?_,rfl,_,rfl⟩;exact WX (P:=Tryz.prog) (h:=h) (k:=2) (row:=AAI) A4B AWK (jM 2)
 exact hp.res AQJ
theorem AID:MoOk exM:=⟨by decide,by decide,fun p hp=>by
 simp only[exM,List.mem_singleton] at hp;subst hp
 exact⟨by decide +kernel,by decide,by decide,fun b hb=>by
  simp only[exP,List.mem_cons,List.not_mem_nil,or_false] at hb
  rcases hb with rfl|rfl|rfl<;>exact⟨by decide,by decide,by decide,by decide⟩⟩,fun c hc=>by cases hc⟩
theorem AM0:CvOk exV:=⟨by decide,by decide,by decide,by decide⟩
def QM:List AV:=[.sl .full 1 [[.sl .full 1 [[.int .i64 3],[.int .i64 0],[.int .i64 0]]]],.sl .nil 0 [],.int .i64 3,.int .i64 0]
theorem AM1:CvR (.agg QM) (.agg (ER exV)):=CvR.agg (CvRL.cons (CvR.refl _) (CvRL.cons (CvR.sl (Cv.nil 0 1)) (CvRL.cons (CvR.refl _) (CvRL.cons (CvR.refl _) CvRL.nil))))
theorem A1F (h:Hp)(a b c:Int):FY Tryz.prog false h 57 3 [(0,.int .i64 a),(1,.int .i64 b),(2,.int .i64 c)]=some (.sl .full 1 [[.int .i64 a],[.int .i64 b],[.int .i64 c]],h):=by kernel_rfl
theorem A1G (h:Hp)(xs:List (List AV)):FY Tryz.prog false h 26 1 [(0,.sl .full 1 xs)]=some (.sl .full 1 [[.sl .full 1 xs]],h):=by kernel_rfl
theorem A1I (xs:List (List AV))(n:Int):LQ Tryz.prog 28 [(0,.sl .full 1 xs),(2,.int .i64 n)]=some (.agg [.sl .full 1 xs,.sl .nil 0 [],.int .i64 n,.int .i64 0]):=by kernel_rfl
theorem A5W (h:Hp):KJ Tryz.prog h 28=some (.ptr h.length 0 0,h++[.live 4 [[.sl .nil 0 [],.sl .nil 0 [],.int .i64 0,.int .i64 0]]]):=J8 (row:=[.sl .nil 0 [],.sl .nil 0 [],.int .i64 0,.int .i64 0]) (by kernel_rfl)
theorem A14 (h:Hp)(row:List AV)(hr:row.length=4):FW Tryz.prog (h++[.live 4 [row]]) 28 (.ptr h.length 0 0) (.agg QM)=some (h++[.live 4 [QM]]):=by
 have h1:=MV (P:=Tryz.prog) (t:=28) (h:=h) (k:=4) (j:=0) (row:=row) (cs:=QM) (v:=.agg QM) rfl AB8 (by rw[hr]; exact jM 4);have h2:splice row 0 QM=QM:=by unfold splice; simp [hr,QM]
 rw[h2] at h1;exact h1
theorem A4V (h:Hp)(m:Mo)(row:List AV)(hr:row.length=2):FW Tryz.prog (h++[.live 2 [row]]) 25 (.ptr h.length 0 0) (.agg (D6 m))=some (h++[.live 2 [D6 m]]):=by
 rw[MV (TW rfl) (by rw[ZM]; exact AWK) (by rw[ZM,hr]; exact jM _)];have:splice row 0 (D6 m)=D6 m:=by unfold splice; simp [ZM,hr]
 rw[this]
theorem ldR {h:Hp}{b:Nat}(hb:h[b]?=some (.live 4 [QM])):EH Tryz.prog h 28 (.ptr b 0 0)=some (.agg QM):=by
 rw[JY AV1 AB8 hb rfl (jM 4)]; rfl
theorem A3T (xs:List (List AV)):LQ Tryz.prog 106 [(2,.sl .full 1 xs)]=some (.agg [.bool false,.int .i64 0,.sl .full 1 xs]):=by kernel_rfl
theorem A3M (h:Hp)(xs:List (List AV)):FY Tryz.prog false h 32 1 [(0,.agg [.bool false,.int .i64 0,.sl .full 1 xs])]=some (.sl .full 3 [[.bool false,.int .i64 0,.sl .full 1 xs]],h):=by kernel_rfl
def exH:Gl:=⟨false,0,.full,[1],0⟩
theorem AUM:eqH (PO exM exV) [exH]=true:=by decide +kernel
theorem AYD:(PO exM exV).length<=1048576:=by decide +kernel
theorem AUN:∀g∈PO exM exV,g.bins.length<=1048576:=by decide +kernel
set_option maxHeartbeats 1000000 in
theorem awake (G:Nat->AV)(hG:GOk G)(hT:O7 G)(h:Hp):PCall (En G) 33 [] h (.bool true):=by
 refine ACalls.pure0 rfl ?_;refine acN Tryz.func33 rfl ?_;show awp _ _ _ _ _ (EN _ [.tmp 0] _);simp -implicitDefEqProofs only[BC,BA,A8,AY,BB,AO,AQ,AL,BD,AX,AC,AU,BX,BM,A7,CB,BU,jE,jF,jB,jC,enP];refine(sample G h).use ?_;have hst:=A14 (h++[ABlk.live 2 [D6 exM]]) [.sl .nil 0 [],.sl .nil 0 [],.int .i64 0,.int .i64 0] rfl;simp -implicitDefEqProofs only[EY,FT,BC,BA,A8,AY,BB,AO,AQ,AL,BD,AX,AC,EM,AA,AZ,AU,BH,FD,G9,EP,D5,BZ,AB,CX,↓reduceIte,jA,jB,jC,enP,jP,A35,A4V h exM [.sl .nil 0 [],.sl .nil 0 []] rfl,A1F,A1G,A1I,A5W];refine HY (v:=IU) (h:=h++[ABlk.live 2 [D6 exM]]++[ABlk.live 4 [QM]]) (by exact congrArg ofS hst) ?_;have gm:(h++[ABlk.live 2 [D6 exM]]++[ABlk.live 4 [QM]])[h.length]?=some (.live 2 [D6 exM]):=CV (CY _ _);have gr:=CY (h++[ABlk.live 2 [D6 exM]]) (.live 4 [QM]);have hx:∃x,h++[ABlk.live 2 [D6 exM]]++[ABlk.live 4 [QM]]=h++x:=⟨_,zA _ _ _⟩;simp -implicitDefEqProofs only[BC,BA,A8,AY,BB,AO,AQ,AL,BD,AX,EM,AA,AZ,BQ,↓reduceIte,jA,jB,jC,enP]
 generalize h++[ABlk.live 2 [D6 exM]]++[ABlk.live 4 [QM]]=H at gm gr hx|-
 generalize (h++[ABlk.live 2 [D6 exM]]).length=rb at gr|-
 have cv:CvRL [.agg (D6 exM),.agg QM] [.agg (D6 exM),.agg (ER exV)]:=CvRL.cons (CvR.refl _) (CvRL.cons AM1 CvRL.nil);have p1:=AGF G hG exM AID H;rw[AYE] at p1;have p2:=(ADO G hG hT exM exV AID AM0 H).args cv;rw[AUL] at p2;have p3:=(AQQ G hG hT exM exV AID AM0 H).args cv;rw[AYC] at p3;have p4:=(AMV G hG hT exM exV AID AM0 H).args cv;have p5:=AQG G (PO exM exV) [exH] (nm (PO exM exV)) .full H AYD AUN;rw[AUM] at p5;have c1:(((2:Nat):Int)==2)=true:=rfl;have c2:(((1:Nat):Int)==1)=true:=rfl;have c3:(((50:Nat):Int)==50)=true:=rfl;simp -implicitDefEqProofs only[AY,AO,AQ,AL,BD,AX,AC,AA,AZ,BX,CB,BU,AB,jD,jE,jF,↓reduceIte,jB,jC,ldM gm];refine p1.use ?_;simp -implicitDefEqProofs only[AY,BL,BV,CO,F9,AO,AQ,AL,BD,AX,AC,AA,AZ,AU,BX,BH,BG,BQ,BR,CB,BU,AB,EC,jD,jE,jF,↓reduceIte,jA,jB,jC,enP,c1,ldM gm,ldR gr];refine p2.use ?_;simp -implicitDefEqProofs only[AY,BL,BV,CO,F9,AO,AQ,AL,BD,AX,AC,AA,AZ,AU,BX,BH,BM,BG,CQ,DY,BQ,BR,CB,BU,AB,EC,jD,jE,jF,↓reduceIte,jA,jB,jC,enP,c2,ldM gm,ldR gr];refine p3.use ?_;simp -implicitDefEqProofs only[AY,BL,BV,CO,F9,AO,AQ,AL,BD,AX,AC,AA,AZ,AU,BX,BH,BM,BG,CQ,DY,BQ,BR,CB,BU,AB,EC,jD,jE,jF,↓reduceIte,jA,jB,jC,enP,c3,ldM gm,ldR gr];refine p4.use ?_;simp -implicitDefEqProofs only[EY,FT,BL,BV,CO,F9,AO,AQ,AL,BD,AX,AC,AA,AZ,AU,BX,BH,G9,EP,CB,BU,BZ,AB,jD,jE,jF,↓reduceIte,jA,jB,jC,enP,ACE,A3T,A3M];refine PCall.use (r:=.bool true) p5 ?_;simp -implicitDefEqProofs only[BK,A8,CG,AY,BB,AO,AQ,AL,BD,AX,AC,AA,AZ,AU,BM,A7,CQ,DY,↓reduceIte,jA,jB,jC];exact⟨trivial,hx⟩
end Go.Proofs.YtocilianjfhifaaGreatDoor.Cov
