/- Part 4 of the proof (Sw, Sc, Sd, Sa, St, Su); no condition. -/
import Derived.Deep.Draws
import Derived.DefersIn
import Derived.RecoverIn
import Derived.Test.YtgnoolgeijmlaaaGreatDoorZE3
set_option linter.unusedVariables false
namespace Go.Proofs.YtgnoolgeijmlaaaGreatDoor.Sm
open Bool renaming and_eq_true→zB,or_eq_true→qO
open List renaming take_of_length_le→zH,append_assoc→zJ,getElem?_set→zI,mem_of_getElem?→zV,getElem?_eq_getElem→jX,take_succ_eq_append_getElem→qK,mem_cons→qY
open Nat renaming le_of_ble_eq_true→jH,zero_add→jG

theorem FU (ρ:Operand->AV):evp ρ []=[]:=rfl
theorem F9 (ρ:Operand->AV)(i:Nat)(x:Operand)(r:List (Nat×Operand)):evp ρ ((i,x)::r)=(i,ρ x)::evp ρ r:=rfl
theorem AFR {o:Option (AV×Hp)}{K:AV->Hp->Prop}{v:AV}{h:Hp}(ho:o=some (v,h))(hk:K v h):IW o K:=by rw[ho]; exact hk
theorem AO (n:Nat):Hint.none.md n=false:=rfl
theorem AQ (n:Nat):Hint.none.fz n=[]:=rfl
theorem AC (s:Fr×Hp):LU s []=s:=rfl
theorem IB (s:Fr×Hp)(i:Nat)(r:List Nat):LU s (i::r)=LU (O0 s i) r:=rfl
def hint (md:List Nat)(fz:List (Nat×List Nat)):Hint:=⟨fun n=>md.contains n,fun n=>match fz.find? (fun x=>x.1==n) with|some x=>x.2|none=>[]⟩
section
variable (P:Program) (t:TypeId) (k:IntKind) (a b:Int)
theorem DT:JD P t .add (.int k a) (.int k b)=some (.int k (k.wrap (a+b))):=by simp [JD,WU,PD]
theorem LG:JD P t .sub (.int k a) (.int k b)=some (.int k (k.wrap (a-b))):=by simp [JD,WU,PD]
theorem UR:JD P t .mul (.int k a) (.int k b)=some (.int k (k.wrap (a*b))):=by simp [JD,WU,PD]
theorem AOK (h:b≠0):JD P t .quo (.int k a) (.int k b)=some (.int k (k.wrap (a.tdiv b))):=by simp [JD,WU,PD,h]
theorem ZY (h:b≠0):JD P t .rem (.int k a) (.int k b)=some (.int k (a.tmod b)):=by simp [JD,WU,PD,h]
theorem D5:JD P t .eql (.int k a) (.int k b)=some (.bool (a==b)):=by simp [JD,WU,PD]
theorem E8:JD P t .neq (.int k a) (.int k b)=some (.bool (a != b)):=by simp [JD,WU,PD]
theorem DC:JD P t .lss (.int k a) (.int k b)=some (.bool (decide (a<b))):=by simp [JD,WU,PD]
theorem NM:JD P t .leq (.int k a) (.int k b)=some (.bool (decide (a<=b))):=by simp [JD,WU,PD]
theorem GK:JD P t .gtr (.int k a) (.int k b)=some (.bool (decide (a>b))):=by simp [JD,WU,PD]
theorem G5:JD P t .geq (.int k a) (.int k b)=some (.bool (decide (a≥b))):=by simp [JD,WU,PD]
theorem AW8:JD P t .and (.int k a) (.int k b)=some (.int k (k.wrap (BitVec.ofInt k.bits a &&& BitVec.ofInt k.bits b).toNat)):=by simp [JD,WU,PD]
theorem AW7 (k':IntKind)(h:¬b<0):JD P t .shr (.int k a) (.int k' b)=some (.int k (a.fdiv (2^(min b.toNat k.bits)))):=by simp [JD,WU,h]
theorem LH (s u:ByteArray):JD P t .eql (.str s) (.str u)=some (.bool (s.toList==u.toList)):=rfl
theorem VU (s u:ByteArray):JD P t .neq (.str s) (.str u)=some (.bool (!(s.toList==u.toList))):=rfl
theorem ATU (p q:Bool)(hu:P.underlying t=some .bool):JD P t .neq (.bool p) (.bool q)=some (.bool (!(p==q))):=by simp [JD,ACM,hu]
theorem F6 (p:Bool):aUn .not (.bool p)=some (.bool (!p)):=rfl
theorem AY0:aUn .neg (.int k a)=some (.int k (k.wrap (0-a))):=rfl
theorem AZI:RQ AGF (.int k a) [.int k b]=some (.int k (max a b)):=by simp [RQ,AGF]
theorem AR3:RQ Z5 (.int k a) [.int k b]=some (.int k (min a b)):=by simp [RQ,Z5]
theorem AJY {s d:TypeId}{k':IntKind}{ds:TypeDesc}(h1:P.underlying s=some ds)(h2:P.underlying d=some (.int k')):Z8 P s d (.int k a)=some (.int k' (k'.wrap a)):=by simp [Z8,h1,h2]
end
theorem wrap_i64 {n:Int}(h0 : -9223372036854775808<=n)(h1:n<=9223372036854775807):IntKind.i64.wrap n=n:=by
 unfold IntKind.wrap IntKind.bits IntKind.signed;simp;omega
section
variable {α:Type} {P:Program}
theorem PO {t e:TypeId}(hu:P.underlying t=some (.slice e)):(∀m k xs,LX P t (.sl m k xs)=some (.int .i64 xs.length))∧∀b off len,LX P t (.own b off len)=some (.int .i64 len):=by
 constructor<;>intros<;>simp [LX,hu]
theorem AV1 {t:TypeId}(hu:P.underlying t=some .string)(s:ByteArray):LX P t (.str s)=some (.int .i64 s.size):=by simp [LX,hu]
theorem EZ {k:Nat}{h:Hp}{m:SM}{f:α->List AV}{xs:List α}{kk:IntKind}{n:Nat}(hn:n<xs.length):J8 k h (.sl m k (xs.map f)) (.int kk (n:Int))=some (.fptr k (xs.map f) n 0):=by
 simp [J8,hn]
theorem ANZ {k:Nat}{h:Hp}{m:SM}{xs:List (List AV)}{kk:IntKind}{i:Int}(h0:0<=i)(h1:i<(xs.length:Int)):J8 k h (.sl m k xs) (.int kk i)=some (.fptr k xs i.toNat 0):=by
 simp [J8,h0,h1]
theorem OZ {k:Nat}{h:Hp}{b off len:Nat}{kk:IntKind}{n:Nat}{xs:List (List AV)}(hb:h[b]?=some (.live k xs))(hn:n<len):J8 k h (.own b off len) (.int kk (n:Int))=some (.ptr b (off+n) 0):=by
 simp [J8,hb,hn]
theorem FX {h:Hp}{t:TypeId}{k n j:Nat}{f:α->List AV}{xs:List α}(hag:JO P t=some false)(hn:n<xs.length):DF P h t (.fptr k (xs.map f) n j)=(f xs[n])[j]? := by
 simp [DF,rowAt,hn,hag]
theorem GM {h:Hp}{t:TypeId}{k n s:Nat}{f:α->List AV}{xs:List α}(hag:JO P t=some true)(hs:szO P t=some s)(hl:∀x,(f x).length=s)(hn:n<xs.length) :
  DF P h t (.fptr k (xs.map f) n 0)=some (.agg (f xs[n])):=by
 have:=hl xs[n];simp [DF,rowAt,hn,hag,hs,this];rw[zH (by omega)]
theorem DJ {h:Hp}{t:TypeId}{b i j k:Nat}{xs:List (List AV)}{row:List AV}(hag:JO P t=some false)(hb:h[b]?=some (.live k xs))(hr:xs[i]?=some row):DF P h t (.ptr b i j)=row[j]? := by
 simp [DF,rowAt,hb,hr,hag]
theorem GV {h:Hp}{t:TypeId}{b i j k s:Nat}{xs:List (List AV)}{row:List AV}(hag:JO P t=some true)(hs:szO P t=some s)(hb:h[b]?=some (.live k xs))(hr:xs[i]?=some row)(hl:j+s<=row.length) :
  DF P h t (.ptr b i j)=some (.agg ((row.drop j).take s)):=by
 simp [DF,rowAt,hb,hr,hag,hs,hl]
end
theorem CU (h:Hp)(x:ABlk):(h++[x])[h.length]?=some x:=by simp
theorem JP (h:Hp)(x y:ABlk):(h++[x]).set h.length y=h++[y]:=by simp
theorem BO {h:Hp}{x y:ABlk}{b:Nat}(hb:h[b]?=some y):(h++[x])[b]?=some y:=by
 rw[List.getElem?_append_left (CB hb)]; exact hb
theorem APM {P:Program}{h:Hp}{t:TypeId}{k s j:Nat}{row:List AV}(hag:JO P t=some true)(hs:szO P t=some s)(hl:j+s<=row.length):DF P (h++[.live k [row]]) t (.ptr h.length 0 j)=some (.agg ((row.drop j).take s)):=by
 simp [DF,rowAt,hag,hs,hl]
theorem AAH {P:Program}{h:Hp}{t:TypeId}{k j:Nat}{row cs:List AV}{v:AV}(hc:JM v=some cs)(hs:szO P t=some cs.length)(hl:j+cs.length<=row.length) :
  FO P (h++[.live k [row]]) t (.ptr h.length 0 j) v=some (h++[.live k [splice row j cs]]):=by
 simp [FO,hc,hs,hl]
theorem A0B {h:Hp}{v:AV}{cs:List AV}(hc:JM v=some cs):MG h v=some (.ptr h.length 0 0,h++[.live cs.length [cs]]):=by simp [MG,hc]
theorem TC {cs:List AV}(hl:cs.all AV.leaf=true):JM (.agg cs)=some cs:=by simp only[JM,hl,if_true]
theorem YF (k:IntKind)(n:Int):JM (.int k n)=some [.int k n]:=rfl
theorem AYR (f:Fn)(a b:List AV):JM (.fn f a b)=some [.fn f a b]:=rfl
theorem ACS {n:Nat}(h:n<=9223372036854775807):IntKind.i64.wrap (n:Int)=(n:Int):=wrap_i64 (by omega) (by omega)
theorem wrap_succ {n:Nat}(h:n<9223372036854775807):IntKind.i64.wrap ((n:Int)+1)=((n+1:Nat):Int):=by rw[wrap_i64 (by omega) (by omega)]; omega
theorem CQ (l:List Nat)(f:List (Nat×List Nat))(n:Nat):(hint l f).md n=l.contains n:=rfl
set_option linter.unusedSimpArgs false in
theorem JU {P:Program}{h:Hp}{t:TypeId}{row:List AV}(hz:N9 P t=some row):J6 P h t=some (.ptr h.length 0 0,h++[.live row.length [row]]):=by
 unfold N9 at hz;unfold J6 MG;split at hz
 .rename_i z hz2; simp only[hz2,hz]
 .cases hz
theorem AW4 (h:Hp)(b:ByteArray):MG h (.str b)=some (.ptr h.length 0 0,h++[.live 1 [[.str b]]]):=rfl
theorem AMC (h:Hp)(m:SM)(k:Nat)(xs:List (List AV)):MG h (.sl m k xs)=some (.ptr h.length 0 0,h++[.live 1 [[.sl m k xs]]]):=rfl
theorem WO {h:Hp}{cs:List AV}(hl:cs.all AV.leaf=true):MG h (.agg cs)=some (.ptr h.length 0 0,h++[.live cs.length [cs]]):=A0B (TC hl)
theorem E5 {P:Program}{h:Hp}{t:TypeId}{k j:Nat}{row:List AV}(hag:JO P t=some false):DF P (h++[.live k [row]]) t (.ptr h.length 0 j)=row[j]? := by
 simp [DF,rowAt,hag]
theorem ACalls.of_rep {E:Env}{f:FuncId}{args:List AV}{h:Hp}{R:AV->Hp->Prop}(hok:YI E.P f)(hh:(∃(g:Gh) (cargs:Array Value),YG g args cargs)->ACalls E f args h R):ACalls E f args h R :=
 ⟨hok,fun g w cargs S ha=>(hh ⟨g,cargs,ha⟩).2 g w cargs S ha⟩
theorem ALA {g:Gh}{args:List AV}{cargs:Array Value}{i k:Nat}{xs:List (List AV)}(ha:YG g args cargs)(hi:args[i]?=some (.sl .nil k xs)):xs=[]:=by
 have hlt:i<cargs.size:=by rw[ha.1]; exact CB hi
 have:=(ha.2 i _ cargs[i] hi (by simp [hlt])).sl_inv;generalize cargs[i]=cv at this
 cases this with
 | nil=>rfl
 | empty=>rfl
 | sl _ _ _ _ _ _ _ _ _ _ _ h=>exact absurd rfl h
theorem AR7 {P:Program}{h:Hp}{t:TypeId}{k i j:Nat}{xs:List (List AV)}{row:List AV}{v:AV}(hag:JO P t=some false)(hr:xs[i]?=some row)(hv:row[j]?=some v):DF P h t (.fptr k xs i j)=some v:=by
 simp [DF,rowAt,hag,hr,hv]
theorem G7 {P:Program}{h:Hp}{t:TypeId}{b i j k:Nat}{xs:List (List AV)}{row cs:List AV}{v:AV}(hc:JM v=some cs)(hs:szO P t=some cs.length)(hb:h[b]?=some (.live k xs))(hr:xs[i]?=some row)(hl:j+cs.length<=row.length) :
  FO P h t (.ptr b i j) v=some (h.set b (.live k (xs.set i (splice row j cs)))):=by
 simp [FO,hc,hs,hb,hr,hl]
def ext (h H:Hp):Prop:=∃x,H=h++x
theorem ext.rfl' (h:Hp):ext h h:=⟨[],by simp⟩
theorem ext.app {h H:Hp}(he:ext h H)(x:Hp):ext h (H++x):=by obtain⟨y,rfl⟩:=he; exact⟨y++x,by rw[zJ]⟩
theorem ext.set {h H:Hp}(he:ext h H){b:Nat}(hb:h.length<=b)(y:ABlk):ext h (H.set b y):=by
 obtain⟨x,rfl⟩:=he;exact⟨x.set (b-h.length) y,by rw[List.set_append_right _ _ hb]⟩
theorem ext.trans {a b c:Hp}(h1:ext a b)(h2:ext b c):ext a c:=by obtain⟨x,rfl⟩:=h1; exact h2.casesOn fun y e=>⟨x++y,by rw[e,zJ]⟩
theorem ext.le {h H:Hp}(he:ext h H):h.length<=H.length:=by obtain⟨x,rfl⟩:=he; simp
theorem MZ {h:Hp}{b o:Nat}{x:Option ABlk}{y:ABlk}(ho:h[o]?=x)(hne:o≠b):(h.set b y)[o]?=x:=by rw[zI,if_neg (fun e=>hne e.symm)]; exact ho
theorem DX {h:Hp}{b:Nat}{x y:ABlk}(hb:h[b]?=some x):(h.set b y)[b]?=some y:=by
 have:=CB hb;rw[zI,if_pos rfl,if_pos this]
def AP5 (m:SM)(u n:Nat):SM:=match m with|.nil=>.nil|.full=>if u=n then .full else .any|.any=>.any
section
variable {P:Program} {t e:TypeId} {k:Nat} (hu:P.underlying t=some (.slice e)) (hs:szO P e=some k)
include hu hs
theorem ANB {h:Hp}{m:SM}{kk:IntKind}{xs:List (List AV)}{u:Nat}(hl:u<=xs.length):MK P h t (.sl m k xs) none (some (.int kk (u:Int))) none=some (.sl (AP5 m u xs.length) k (xs.take u)):=by
 have h1:KL (some (.int kk (u:Int))) (some xs.length)=some u:=by simp [KL]
 have h2:KL none (some 0)=some 0:=rfl;simp only[MK,hu,h1,h2,hs,true_and];rw[if_pos ⟨Nat.zero_le _,hl⟩];cases m<;>simp [AP5]
end
section
variable {P:Program} {t e:TypeId} {k b:Nat} (hu:P.underlying t=some (.slice e)) (hs:szO P e=some k) (hz:ABW P e=some k) (hb:OJ P e=some b)
include hu hs hz hb
theorem AKF {h:Hp}{xs ys:List (List AV)}{x:AV}(hy:KQ h x=some (k,ys))(hne:ys≠[])(hr:room (xs.length+ys.length) b) :
  IP P true h t t (.sl .full k xs) x=some (.own h.length 0 (xs.length+ys.length),h++[.live k (xs++ys)]):=by
 have hl:¬ys.length=0:=by simpa using hne
 simp [IP,hu,hs,WR,hy,bump,hz,hb,hr,hl]
theorem Z4 {h:Hp}{k':Nat}{xs ys:List (List AV)}{x:AV}(hy:KQ h x=some (k,ys))(hne:ys≠[])(hr:room ys.length b) :
  IP P true h t t (.sl .nil k' xs) x=some (.own h.length 0 ys.length,h++[.live k ys]):=by
 have hl:¬ys.length=0:=by simpa using hne
 simp [IP,hu,hs,WR,hy,bump,hz,hb,hr,hl]
theorem UW {h:Hp}{o off len:Nat}{xs ys:List (List AV)}{x:AV}(hc:KQ h (.own o off len)=some (k,xs))(hy:KQ h x=some (k,ys))(hne:ys≠[])(hr:room (xs.length+ys.length) b) :
  IP P true h t t (.own o off len) x=some (.own h.length 0 (xs.length+ys.length),h.set o .dead++[.live k (xs++ys)]):=by
 have hl:¬ys.length=0:=by simpa using hne
 simp [IP,hu,hs,WR,hy,bump,hz,hb,hr,hl,hc]
end
theorem KJ (h:Hp)(m:SM)(k:Nat)(xs:List (List AV)):KQ h (.sl m k xs)=some (k,xs):=rfl
theorem OQ {h:Hp}{o k off len:Nat}{xs:List (List AV)}(hb:h[o]?=some (.live k xs))(hl:off+len<=xs.length):KQ h (.own o off len)=some (k,(xs.drop off).take len):=by simp [KQ,hb,hl]
def J3 (P:Program)(t:TypeId)(f off:Nat):Bool:=match P.underlying t with
 | some (.struct fields)=>match fields[f]? with
   | some fl=>fl.offset==off&&(match szO P fl.type with
     | some n=>Nat.ble 1 n
     | none=>false)
   | none=>false
 | _=>false
theorem IM {P:Program}{t:TypeId}{f off:Nat}(h:J3 P t f off=true) :
  (∀b i j,CZ P t (.ptr b i j) f=some (.ptr b i (j+off)))∧(∀k xs i j,CZ P t (.fptr k xs i j) f=some (.fptr k xs i (j+off))):=by
 unfold J3 at h;split at h
 case h_2=>cases h
 rename_i fields hu;split at h
 case h_2=>cases h
 rename_i fl hf;simp only[zB,beq_iff_eq] at h;obtain⟨h1,h2⟩:=h;split at h2
 case h_2=>cases h2
 rename_i n hs;have h3:1<=n:=jH h2;obtain⟨m,rfl⟩:∃m,n=m+1:=⟨n-1,by omega⟩
 exact AHC hu hf hs off h1

def Cv (a b:AV):Prop:=∀(M:Nat->Option Obj) (cv:Value),RepF M a cv->RepF M b cv
def CvR (a b:AV):Prop:=∀(g:Gh) (cv:Value),Rep g a cv->Rep g b cv
theorem Cv.refl (a:AV):Cv a a:=fun _ _ h=>h
theorem CvR.refl (a:AV):CvR a a:=fun _ _ h=>h
theorem Cv.nil (k k':Nat):Cv (.sl .nil k []) (.sl .nil k' []):=by
 intro M cv h
 cases h with
 | nil=>exact .nil k'
 | empty m k0 a cap h1=>exact absurd rfl h1
 | sl _ _ _ _ _ _ _ _ _ _ h=>exact absurd rfl h
theorem Cv.empty (m:SM)(k k':Nat):Cv (.sl m k []) (.sl m k' []):=by
 intro M cv h
 cases h with
 | nil=>exact .nil k'
 | empty m k0 a cap h1 h2=>exact .empty m k' a cap h1 h2
 | sl _ _ _ _ _ _ _ _ _ _ h=>exact absurd rfl h
theorem Cv.any {m:SM}(hm:m≠.nil)(k:Nat)(xs:List (List AV)):Cv (.sl m k xs) (.sl .any k xs):=by
 intro M cv h
 cases h with
 | nil=>exact absurd rfl hm
 | empty m k0 a cap h1 h2=>exact .empty .any k a cap (by simp) (by simp)
 | sl m k xs cb co c e fz cap cv h1 h2 h3 h4 h5 h6 h7 h8=>exact .sl .any k xs cb co c e fz cap cv h1 (by simp) h3 h4 h5 h6 h7 (by simp)
def CvRow (r r':List AV):Prop:=r'.length=r.length∧∀(j:Nat) (v v':AV),r[j]?=some v->r'[j]?=some v'->v'.leaf=true∧Cv v v'
theorem Cv.rows {m:SM}{k:Nat}{xs ys:List (List AV)}(hl:ys.length=xs.length)(h:∀(i:Nat) (r r':List AV),xs[i]?=some r->ys[i]?=some r'->CvRow r r'):Cv (.sl m k xs) (.sl m k ys):=by
 have row:∀(i:Nat) (r':List AV),ys[i]?=some r'->∃r,xs[i]?=some r∧CvRow r r':=fun i r' hr=>by
  have hi:i<xs.length:=by rw[<-hl]; exact CB hr
  exact⟨xs[i],by simp [hi],h i _ _ (by simp [hi]) hr⟩
 intro M cv hr
 cases hr with
 | nil=>have:ys=[]:=List.length_eq_zero_iff.1 hl; subst this; exact .nil k
 | empty m k0 a cap h1 h2=>have:ys=[]:=List.length_eq_zero_iff.1 hl; subst this; exact .empty m k a cap h1 h2
 | sl m k xs cb co c e fz cap cv h1 h2 h3 h4 h5 h6 h7 h8 =>
   rw[<-hl];refine .sl m k ys cb co c e fz cap cv (fun e=>h1 (by subst e; exact List.length_eq_zero_iff.1 hl.symm)) h2 h3 ?_ ?_ ?_ (by omega) (fun e=>by rw[hl]; exact h8 e)
   .intro i r' hr'
    obtain⟨r,q1,q2,q3⟩:=row i r' hr';refine⟨by rw[q2]; exact(h4 i r q1).1,fun j v' hv'=>?_⟩;have hj:j<r.length:=by rw[<-q2]; exact CB hv'
    exact(q3 j r[j] v' (by simp [hj]) hv').1
   .intro i j hi hj; exact h5 i j (by omega) hj
   .intro i j r' v' hr' hv'
    obtain⟨r,q1,q2,q3⟩:=row i r' hr';have hj:j<r.length:=by rw[<-q2]; exact CB hv'
    exact(q3 j r[j] v' (by simp [hj]) hv').2 _ _ (h6 i j r r[j] q1 (by simp [hj]))
theorem Cv.map {α:Type}{m:SM}{k:Nat}{xs:List α}{f f':α->List AV}(h:∀x∈xs,CvRow (f x) (f' x)):Cv (.sl m k (xs.map f)) (.sl m k (xs.map f')):=by
 refine Cv.rows (by simp) fun i r r' h1 h2=>?_
 rw[List.getElem?_map,Option.map_eq_some_iff] at h1 h2;obtain⟨x,hx,rfl⟩:=h1;obtain⟨x',hx',rfl⟩:=h2;rw[hx] at hx'; cases hx';exact h x (zV hx)
theorem CvRow.refl {r:List AV}(h:∀v∈r,v.leaf=true):CvRow r r:=⟨rfl,fun j v v' h1 h2=>by rw[h1] at h2; cases h2; exact⟨h v (zV h1),Cv.refl v⟩⟩
theorem CvRow.nil:CvRow [] []:=⟨rfl,fun j v v' h=>by simp at h⟩
theorem CvRow.cons {v v':AV}{r r':List AV}(hl:v'.leaf=true)(h:Cv v v')(hr:CvRow r r'):CvRow (v::r) (v'::r'):=by
 refine⟨by simp [hr.1],fun j a a' h1 h2=>?_⟩
 cases j with
 | zero=>simp at h1 h2; subst h1; subst h2; exact⟨hl,h⟩
 | succ j=>simp at h1 h2; exact hr.2 j a a' h1 h2
theorem CvR.sl {m m':SM}{k k':Nat}{xs ys:List (List AV)}(h:Cv (.sl m k xs) (.sl m' k' ys)):CvR (.sl m k xs) (.sl m' k' ys):=fun _ _ hr=>.fro (h _ _ hr.sl_inv)
def CvRL (r r':List AV):Prop:=r'.length=r.length∧∀(j:Nat) (v v':AV),r[j]?=some v->r'[j]?=some v'->CvR v v'
theorem CvRL.nil:CvRL [] []:=⟨rfl,fun j v v' h=>by simp at h⟩
theorem CvRL.cons {v v':AV}{r r':List AV}(h:CvR v v')(hr:CvRL r r'):CvRL (v::r) (v'::r'):=by
 refine⟨by simp [hr.1],fun j a a' h1 h2=>?_⟩
 cases j with
 | zero=>simp at h1 h2; subst h1; subst h2; exact h
 | succ j=>simp at h1 h2; exact hr.2 j a a' h1 h2
theorem CvRL.refl (r:List AV):CvRL r r:=⟨rfl,fun j v v' h1 h2=>by rw[h1] at h2; cases h2; exact CvR.refl v⟩
theorem CvR.agg {r r':List AV}(h:CvRL r r'):CvR (.agg r) (.agg r'):=by
 intro g cv hr;obtain⟨vs,rfl,h1,h2⟩:=hr.agg_inv;refine .agg r' vs (by rw[h1,h.1]) fun i v' c a b=>?_
 have hi:i<r.length:=by rw[<-h.1]; exact CB a
 exact h.2 i r[i] v' (by simp [hi]) a g c (h2 i r[i] c (by simp [hi]) b)
theorem CvR.tup {r r':List AV}(h:CvRL r r'):CvR (.tup r) (.tup r'):=by
 intro g cv hr;obtain⟨vs,rfl,h1,h2⟩:=hr.tup_inv;refine .tup r' vs (by rw[h1,h.1]) fun i v' c a b=>?_
 have hi:i<r.length:=by rw[<-h.1]; exact CB a
 exact h.2 i r[i] v' (by simp [hi]) a g c (h2 i r[i] c (by simp [hi]) b)
theorem ACalls.args {E:Env}{f:FuncId}{args args':List AV}{h:Hp}{R:AV->Hp->Prop}(hc:ACalls E f args' h R)(ha:CvRL args args'):ACalls E f args h R:=by
 refine⟨hc.1,fun g w cargs S hr=>hc.2 g w cargs S ⟨by rw[hr.1,ha.1],fun i v' cv h1 h2=>?_⟩⟩;have hi:i<args.length:=by rw[<-ha.1]; exact CB h1
 exact ha.2 i args[i] v' (by simp [hi]) h1 g cv (hr.2 i args[i] cv (by simp [hi]) h2)
theorem PCall.args {E:Env}{f:FuncId}{args args':List AV}{h:Hp}{r:AV}(hc:PCall E f args' h r)(ha:CvRL args args'):PCall E f args h r:=ACalls.args hc ha
theorem PCall.res {E:Env}{f:FuncId}{args:List AV}{h:Hp}{r r':AV}(hc:PCall E f args h r)(hr:CvR r r'):PCall E f args h r' :=
 ACalls.conv hc fun v h' ⟨e1,e2⟩=>by subst e1; exact⟨r',⟨rfl,e2⟩,hr⟩
theorem FD (l:List Nat)(n:Nat):(hint l []).fz n=[]:=rfl
theorem EQ (l:List Nat)(a:Nat)(s:List Nat)(n:Nat):(hint l [(a,s)]).fz n=if(a==n)=true then s else []:=by
 unfold hint;simp only[List.find?];cases a==n<;>rfl
theorem ASX {H:Hp}{i b off len k:Nat}{xs:List (List AV)}(hb:H[b]?=some (.live k xs))(hl:off+len<=xs.length)(hf:PW ((xs.drop off).take len)=true) :
  ∀F:Fr,F i=.own b off len->O0 (F,H) i=(upd F i (.sl .any k ((xs.drop off).take len)),H.set b .dead):=by
 intro F hF;unfold O0;simp only[hF,hb];rw[if_pos ⟨hl,hf⟩]
theorem AN3 {H:Hp}{i k:Nat}{m:SM}{xs:List (List AV)}:∀F:Fr,F i=.sl m k xs->O0 (F,H) i=(F,H):=by
 intro F hF;unfold O0;simp only[hF]

def nilA (h:Hp)(K:AV->Hp->Prop)(v:AV):Prop:=match v with
 | .ptr b i j=>K (.ptr b i j) h
 | .fptr k xs i j=>K (.fptr k xs i j) h
 | _=>False
theorem DU {E:Env}{F:Fr}{h:Hp}{c:Fr->AV->Hp->Prop}{own:Bool}(x:Operand):X1 E own (.nilCheck x) (F,h) c=nilA h (c F) (ev E F x):=by
 simp only[X1,MQ,aop,nilA];generalize ev E F x=v;cases v<;>rfl
theorem FM {E:Env}{F:Fr}{h:Hp}{c:Fr->AV->Hp->Prop}{own:Bool}(x:Operand):Y1 E own (.nilCheck x) (F,h) c=X1 E own (.nilCheck x) (F,h) c:=rfl
theorem EJ (h:Hp)(K:AV->Hp->Prop)(b i j:Nat):nilA h K (.ptr b i j)=K (.ptr b i j) h:=rfl
theorem PCall.of_reads {E:Env}{f:FuncId}{args:List AV}{h:Hp}{r:AV}(hok:YI E.P f)
  (hc:∀(g:Gh) (w:World) (cargs:Array Value),SimH E g h w->YG g args cargs->∃cv,Rep g r cv∧Calls E.P f cargs w fun e w'=>e=.returned cv∧∃n,w'=w.drewN n):PCall E f args h r:=by
 refine⟨hok,fun g w cargs S ha=>?_⟩;obtain⟨cv,hr,hcall⟩:=hc g w cargs S.ofNox ha;refine hcall.mono ?_;rintro e w' ⟨rfl,n,rfl⟩;exact .inl ⟨r,cv,g,h,rfl,⟨rfl,rfl⟩,Gh.le.refl g,S.world rfl rfl rfl fun k _=>rfl,hr⟩

def ADE:Option Value->FrameMode
 | none=>.returning
 | some v=>.panicking [{ v:=v,recovered:=false }]
def UI:Option Value->FrameMode
 | none=>.returning
 | some v=>.panicking [{ v:=v,recovered:=true }]
theorem AO6 (x:Option Value):settle (UI x)=.returning:=by cases x<;>rfl
def AG5:Option Value->AV
 | none=>.nilifc
 | some v=>match v with
   | .iface t u=>.ifc t u
   | _=>.junk
def APU:Option Value->Value
 | none=>.nilIface
 | some v=>v
theorem AJG (g:Gh)(x:Option Value):Rep g (AG5 x) (APU x):=by
 cases x with
 | none=>exact .fro .nilifc
 | some v=>cases v<;>first|exact .fro (.ifc _ _)|exact .fro (.junk _)
def ABH (E:Env)(f:FuncId)(args:List AV)(h:Hp)(x:Option Value)(R:Hp->Prop):Prop :=
 YI E.P f∧∀(g:Gh) (w:World) (cargs:Array Value),SimH E g h w->YG g args cargs ->
  CallsDIn Fence.wide 0 E.P f cargs (ADE x) w fun e u' w'=>(∃v,e=.returned v)∧u'=UI x∧∃g' h',R h'∧g.le g'∧SimH E g' h' w'
def A0C:Value->Hp->Prop:=fun _ h=>h=[.live 1 [[]]]
theorem AZH {E:Env}{g:Gh}{w:World}(S:SimH E g [.live 1 [[]]] w):False:=by
 obtain⟨_,_,_,_,_,_,_,_,_,h,_⟩:=S.live 0 1 [[]] rfl;exact absurd (h 0 [] rfl).1 (by decide)
theorem SimH.wx {E:Env}{g:Gh}{h:Hp}{w:World}(S:SimH E g h w)(X:Value->Hp->Prop):SimH (E.wx X) g h w:=⟨S.os,S.tape,S.output,S.fro,S.lo,S.live,S.obj,S.inj,S.fresh,S.glob⟩
theorem SimH.ofWx {E:Env}{g:Gh}{h:Hp}{w:World}{X:Value->Hp->Prop}(S:SimH (E.wx X) g h w):SimH E g h w:=⟨S.os,S.tape,S.output,S.fro,S.lo,S.live,S.obj,S.inj,S.fresh,S.glob⟩
theorem AIW (P:Program)(ρ:Operand->Value)(d:Option Tmp)(ty:TypeId)(p:String)(e:Array Edge)(w:World) :
  (execOp ρ { dst:=d,op:=.call { callee:=.builtin .recover,args := #[],argTypes := #[] },type:=ty,pos:=p,after:=e,guard:=none }).run P w=.ok .recover w:=by
 rfl
theorem A1J {F:Fence}{n:Nat}{P:Program}{o1 o2:Oper}{Q:Exit->Act->List Frame->World->Prop}{a:Act}{cs cs1:List Frame}{w:World}{u v:Value}(hF:∀f,F.fn f)(g1:o1.guard=none)(g2:o2.guard=none)
  (hr1:(execOp a.eval o1).run P w=.ok .recover w) (hrec:recoverD cs=none∧u=.nilIface∧cs1=cs∨recoverD cs=some (u,cs1)) (hr2:(execOp (a.put o1.dst u).eval o2).run P w=.ok (.value v) w)
  (hq:Q .normal ((a.put o1.dst u).put o2.dst v) cs1 w):wpOpsSIn F n P #[o1,o2] Q [0,1] a cs w:=by
 rcases hrec with⟨h1,rfl,rfl⟩|h1
 .simp [wpOpsSIn,Region.wanted,g1,g2,hr1,h1,hr2,hq,hF]
 .simp [wpOpsSIn,Region.wanted,g1,g2,hr1,h1,hr2,hq,hF]
theorem AF3 {E:Env}{H:Hint}{f:FuncId}{fn:Func}{i:Nat}{d0 d1:Tmp}{t0 t1:TypeId}{p0 p1:String}{e0 e1:Array Edge}{rest:Code}{args:List AV}{h:Hp}{x:Option Value}{R:Hp->Prop}
  (hm:E.P.follows .mixedOrders=true) (hf:E.P.funcs[f]?=some fn)
  (hb:fn.body=some ((Code.region i #[{ dst:=some d0,op:=.call { callee:=.builtin .recover,args := #[],argTypes := #[] },type:=t0,pos:=p0,after:=e0,guard:=none },
   { dst:=some d1,op:=.assign (.tmp d0),type:=t1,pos:=p1,after:=e1,guard:=none }] false).seq rest))
  (hname:(fn.name == "runtime.NumGoroutine")=false) (hok:RH fn.ntmps rest=true) (hd0:d0<fn.ntmps) (hd1:d1<fn.ntmps) (hres:fn.results = #[]) (hn:args.length<=fn.ntmps)
  (hw:awp (E.wx A0C) H rest (upd (upd (L9 args) d0 (AG5 x)) d1 (AG5 x)) h (fun e _ h'=>(match e with|.exit _=>False|_=>True)∧R h')):ABH E f args h x R:=by
 refine⟨⟨fn,hf,by simp [hb],hname⟩,fun g w cargs S ha=>?_⟩;refine callsDIn_of_wpSIn hf hb trivial fun c0 cs hc0=>?_
 have s0:Sim (E.wx A0C) fn.ntmps (g.reB g.M) (L9 args) h { tmps:=cargs++Array.replicate (fn.ntmps-cargs.size) undef,defers:=[] } w:=by
  refine⟨(S.wx _).reB g.M,.nil,.inl rfl,fun _ _ h=>h,by simp [ha.1]; omega,fun i=>?_⟩;rw[VM];simp only[Array.getD_eq_getD_getElem?,Array.getElem?_append];split
  .rename_i hi
   have h1:i<args.length:=by rw[<-ha.1]; exact hi
   rw[jX h1];have:=ha.2 i args[i] cargs[i] (by simp [h1]) (by simp [hi]);simpa [hi] using this.reB g.M
  .rename_i hi
   have h1:args.length<=i:=by rw[<-ha.1]; omega
   rw[List.getElem?_eq_none h1,Array.getElem?_replicate];have h2:(if i-cargs.size<fn.ntmps-cargs.size then some undef else none).getD undef=undef:=by split<;>rfl
   simp only[Option.getD_none];rw[h2];exact Rep.undef _
 generalize ({ tmps:=cargs++Array.replicate (fn.ntmps-cargs.size) undef,defers:=[] }:Act)=a0 at s0;have s1:=(s0.put (d:=some d0) (fun y hy=>by cases hy; exact hd0) (Gh.le.refl _) s0.simH (AJG _ x)).put (d:=some d1) (fun y hy=>by cases hy; exact hd1) (Gh.le.refl _) s0.simH (AJG _ x)
 have key:∀cs1,cs1={ c0 with mode:=UI x } :: cs->Code.wpSIn Fence.wide 0 E.P rest (bodyPostS E.P fn c0 cs fun e u' w'=>(∃v,e=.returned v)∧u'=UI x∧∃g' h',R h'∧g.le g'∧SimH E g' h' w') ((a0.put (some d0) (APU x)).put (some d1) (APU x)) cs1 w:=by
  intro cs1 hcs;refine wpSIn_of_wpIn rfl (wpIn_mono (AF7 (E:=E.wx A0C) (ρ:=none) hm rest _ _ _ (g.reB g.M) _ w hw hok (.inl rfl) s1) ?_);rintro e a' w' (⟨x',g',F',h',rfl,⟨hx,hR⟩,hg,s'⟩|⟨u,g',h',rfl,hx,_,S',_⟩)
  rotate_left
  .have hb:h'=[.live 1 [[]]]:=hx
   subst hb;exact(AZH S').elim
  have hdf:a'.defers=[]:=s'.dx.elim id fun q=>(q undef _ rfl).elim
  have fin:a'.defers=[]∧∃u',cs1={ c0 with mode:=u' } :: cs∧∃v,(results fn a'.tmps).run E.P w'=.ok v w'∧((∃v',Ending.returned v=.returned v')∧u'=UI x∧∃g' h',R h'∧g.le g'∧SimH E g' h' w'):=by
   refine⟨hdf,_,hcs,undef,?_,⟨_,rfl⟩,rfl,g'.reB g.B,h',hR,⟨hg.M,hg.μ,hg.os,hg.tape,hg.output,rfl⟩,s'.simH.ofWx.reB g.B⟩;simp [results,hres]; rfl
  cases x' with
  | normal=>exact fin
  | ret=>exact fin
  | exit id=>exact hx.elim
 refine wpSIn_seq (wpSIn_region ?_);show wpOpsSIn _ _ _ _ _ [0,1] _ _ _
 have hev:∀v,(a0.put (some d0) v).eval (.tmp d0)=v:=fun v=>by
  have:d0<a0.tmps.size:=by rw[s0.size]; exact hd0
  simp [Act.eval,Act.put,this]
 refine A1J (u:=APU x) (cs1 := { c0 with mode:=UI x } :: cs) (v:=APU x) (fun _=>trivial) rfl rfl (AIW ..) ?_ (by simp only[execOp,Sem.run_pure,hev]) (key _ rfl)
 cases x with
 | none=>exact .inl ⟨by simp [recoverD,hc0,ADE],rfl,by rw[show UI none=c0.mode from hc0.symm]⟩
 | some v=>exact .inr (by simp [recoverD,hc0,ADE,UI,APU])
theorem A1D {F:Fence}{n:Nat}{P:Program}{i:Nat}{o:Oper}{Q:Exit->Act->World->Prop}{a:Act}{w:World}(g:o.guard=none)(h:o.wpIn F n P a w (fun a w=>Q .normal a w) Q):(Code.region i #[o] false).wpIn F n P Q a w:=by
 refine wpIn_region_list ?_;show wpListIn _ _ _ _ _ [o] _ _;unfold wpListIn;rw[if_pos (by simp [Region.wanted,g])];exact h
theorem A1C {F:Fence}{n:Nat}{P:Program}{i:Nat}{o p:Oper}{Q:Exit->Act->World->Prop}{a:Act}{w:World}(g:o.guard=none)(g':p.guard=none)(h:o.wpIn F n P a w (fun a w=>p.wpIn F n P a w (fun a w=>Q .normal a w) Q) Q) :
  (Code.region i #[o,p] false).wpIn F n P Q a w:=by
 refine wpIn_region_list ?_;show wpListIn _ _ _ _ _ [o,p] _ _
 have h0:wpListIn F n P #[o,p] Q [p]=fun a w=>p.wpIn F n P a w (fun a w=>Q .normal a w) Q:=by
  funext a w;unfold wpListIn;rw[if_pos (by simp [Region.wanted,g'])];rfl
 unfold wpListIn;rw[if_pos (by simp [Region.wanted,g]),h0];exact h
theorem ACT {P:Program}{o:Oper}{a:Act}{w w':World}{v:Value}{next:Act->World->Prop}{Q:Exit->Act->World->Prop}(hd:∀c,o.op≠.defer c)(hr:(execOp a.eval o).run P w=.ok (.value v) w')(h:next (a.put o.dst v) w'):o.wpIn Fence.wide 0 P a w next Q:=by
 refine⟨fun _ _=>trivial,?_⟩;rw[Oper.semAt_eq _ _ _ hd,hr];exact h
theorem AMF {E:Env}{X:Value->Hp->Prop}{f:FuncId}{fn:Func}{c k d4 d5:Tmp}{T:TypeId}{fd:FuncId}{z:Value}{i0 i1 i2 i3:Nat}{o0 o1 o2 o3 o4 o5:Oper}{fid:FuncId}{first caps:List AV}{h:Hp}{blk:ABlk}{R1:Hp->Prop}{R:AV->Hp->Prop}
  (hf:E.P.funcs[f]?=some fn) (hb:fn.body=some ((Code.region i0 #[o0] false).seq ((Code.region i1 #[o1,o2] false).seq ((Code.region i2 #[o3,o4] false).seq ((Code.region i3 #[o5] false).seq .ret)))))
  (hname:(fn.name == "runtime.NumGoroutine")=false) (hnt:fn.ntmps=6∧c=2∧k=3∧d4=4∧d5=5) (hres:fn.results = #[.cell c T])
  (e0:o0.op=.alloc T∧o0.dst=some c∧o0.guard=none) (e1:o1.op=.makeFunc (.func fd) #[] #[.tmp c]∧o1.dst=some k∧o1.guard=none)
  (e2:o2.op=.defer { callee:=.value (.tmp k),args := #[],argTypes := #[] }∧o2.dst=none∧o2.guard=none) (e3:o3.op=.move (.tmp 0)∧o3.dst=some d4∧o3.guard=none)
  (e4:o4.op=.call { callee:=.value (.tmp d4),args := #[],argTypes := #[] }∧o4.dst=some d5∧o4.guard=none) (e5:o5.op=.store T (.tmp c) (.const z)∧o5.dst=none∧o5.guard=none)
  (hal:J6 E.P h T=some (.ptr h.length 0 0,h++[blk]))
  (hdo:ACalls (E.wx X) fid (first++caps) (h++[blk]) fun _ h'=>R1 h')
  (h1:∀h',R1 h'->∃h2,FO E.P h' T (.ptr h.length 0 0) (QL z)=some h2∧ABH E fd [.ptr h.length 0 0] h2 none fun h3=>∃r,DF E.P h3 T (.ptr h.length 0 0)=some r∧R r h3)
  (h2:∀u h',X u h'->ABH E fd [.ptr h.length 0 0] h' (some u) fun h3=>∃r,DF E.P h3 T (.ptr h.length 0 0)=some r∧R r h3) :
  ACalls E f [.fn (.func fid) first caps] h R:=by
 obtain⟨hnt,rfl,rfl,rfl,rfl⟩:=hnt;refine⟨⟨fn,hf,by simp [hb],hname⟩,fun g w cargs S ha=>callsIn_wide.1 (callsIn_of_wp_defers (n:=0) hf hb trivial ?_)⟩;obtain⟨hsz,hargs⟩:=ha;obtain⟨cl⟩:=cargs
 match cl,hsz with
 | [fv],_ =>
 have hfv:=hargs 0 _ fv rfl rfl;obtain⟨first',caps',rfl,q1,q2,q3,q4⟩:=hfv.fn_inv;rw[hnt];have ht0:(#[Value.func (.func fid) first' caps']:Array Value)++Array.replicate (6-(#[Value.func (.func fid) first' caps']:Array Value).size) undef = #[.func (.func fid) first' caps',undef,undef,undef,undef,undef]:=rfl;show Code.wpIn _ _ _ _ _ ({ tmps := #[Value.func (.func fid) first' caps']++Array.replicate (6-(#[Value.func (.func fid) first' caps']:Array Value).size) undef,defers:=[] }:Act) _;rw[ht0]
 -- the cell
 obtain⟨nx,cv,w1,g1,r1,r2,r3,r4,S1⟩:=AGA (E:=E) (own:=false) (o:=o0) (h':=h++[blk]) (v:=.ptr h.length 0 0) (ρ:=fun _=>.junk) (ρ':=(Act.mk #[Value.func (.func fid) first' caps',undef,undef,undef,undef,undef] []).eval) S (fun _=>.junk _ _) (by rw[e0.1]; exact hal);obtain⟨l,hl,rfl⟩:=r3.ptr_inv
 have r2:nx=.value (.pointer (some ⟨l.cb,l.co+0*l.k+0,none⟩)):=by
  rcases r2 with r2|⟨_,r2⟩
  .exact r2
  .cases r2
 subst r2;generalize hp:Value.pointer (some ⟨l.cb,l.co+0*l.k+0,none⟩)=pv at r1 r3;generalize hF:Value.func (.func fid) first' caps'=F at r1;have p0:(Act.mk #[F,undef,undef,undef,undef,undef] []).put (some 2) pv=Act.mk #[F,undef,pv,undef,undef,undef] []:=rfl;refine wpIn_seq (A1D e0.2.2 (ACT (v:=pv) (w':=w1) (fun c h=>by rw[e0.1] at h; cases h) r1 ?_));rw[e0.2.1,p0];show Code.wpIn _ _ _ _ _ _ _
 -- the function is made and put off
 have p1:(Act.mk #[F,undef,pv,undef,undef,undef] []).put (some 3) (.func (.func fd) #[] #[pv])=Act.mk #[F,undef,pv,.func (.func fd) #[] #[pv],undef,undef] []:=rfl
 have x1:(execOp (Act.mk #[F,undef,pv,undef,undef,undef] []).eval o1).run E.P w1=.ok (.value (.func (.func fd) #[] #[pv])) w1:=by
  unfold execOp;rw[e1.1];simp [Instr.makeFunc,Act.eval]
 refine wpIn_seq (A1C e1.2.2 e2.2.2 (ACT (v:=.func (.func fd) #[] #[pv]) (w':=w1) (fun c h=>by rw[e1.1] at h; cases h) x1 ?_));rw[e1.2.1,p1]
 have x2:(o2.semAt none (Act.mk #[F,undef,pv,.func (.func fd) #[] #[pv],undef,undef] []).eval).run E.P w1=.ok (.defer { target:=.fn (.func fd) #[pv],args := #[] }) w1:=by
  rw[Oper.semAt_none];unfold execOp;rw[e2.1];simp [resolve,Act.eval,Deferred.ofValue]
 refine⟨fun _ _=>trivial,?_⟩;show o2.uponIn _ _ _ _ _ _ ((o2.semAt none _).run E.P w1);rw[x2,Oper.uponIn_defer,e2.2.1];show Code.wpIn _ _ _ _ _ _ _
 -- the call
 have p2:(Act.put { (Act.mk #[F,undef,pv,.func (.func fd) #[] #[pv],undef,undef] []) with defers := { target:=.fn (.func fd) #[pv],args := #[] } :: [] } none undef)=Act.mk #[F,undef,pv,.func (.func fd) #[] #[pv],undef,undef] [{ target:=.fn (.func fd) #[pv],args := #[] }]:=rfl;rw[p2];generalize hD : [({ target:=.fn (.func fd) #[pv],args := #[] }:Deferred)]=D;have p3:(Act.mk #[F,undef,pv,.func (.func fd) #[] #[pv],undef,undef] D).put (some 4) F=Act.mk #[F,undef,pv,.func (.func fd) #[] #[pv],F,undef] D:=rfl
 have x3:(execOp (Act.mk #[F,undef,pv,.func (.func fd) #[] #[pv],undef,undef] D).eval o3).run E.P w1=.ok (.value F) w1:=by
  unfold execOp;rw[e3.1];simp [Act.eval]
 refine wpIn_seq (A1C e3.2.2 e4.2.2 (ACT (v:=F) (w':=w1) (fun c h=>by rw[e3.1] at h; cases h) x3 ?_));rw[e3.2.1,p3]
 have x4:(execOp (Act.mk #[F,undef,pv,.func (.func fd) #[] #[pv],F,undef] D).eval o4).run E.P w1=.ok (.enter fid (first'++caps')) w1:=by
  unfold execOp;rw[e4.1];have hF':(Act.mk #[F,undef,pv,.func (.func fd) #[] #[pv],F,undef] D).eval (.tmp 4)=.func (.func fid) first' caps':=by rw[hF]; rfl
  simp only[resolve,hF',Deferred.ofValue,Sem.run_bind,Sem.run_pure,Result.andThen_ok,invoke];rw[YU (P:=E.P) hdo.1];simp
 refine⟨fun _ _=>trivial,?_⟩;show o4.uponIn _ _ _ _ _ _ ((o4.semAt none _).run E.P w1);rw[Oper.semAt_none,x4,Oper.uponIn_enter];refine⟨fun hn=>Bool.noConfusion hn,callsIn_wide.2 ((hdo.2 g1 w1 _ (S1.wx X) (SK ⟨q1,fun i v cv a b=>(q3 i v cv a b).mono r4⟩ ⟨q2,fun i v cv a b=>(q4 i v cv a b).mono r4⟩)).mono ?_)⟩
 -- what the function put off is called with
 have hargs':∀g2:Gh,g1.le g2->YG g2 [.ptr h.length 0 0] (#[]++#[pv]):=fun g2 hg=>⟨rfl,fun i v cv a b=>by
  rcases i with _|i<;>simp at a b;subst a b
  exact r3.mono hg⟩
 have hend:∀(x:Option Value) (g2:Gh) (w2:World) (h2:Hp) (tm:Array Value),g1.le g2->SimH E g2 h2 w2->tm.getD 2 undef=pv->ABH E fd [.ptr h.length 0 0] h2 x (fun h3=>∃r,DF E.P h3 T (.ptr h.length 0 0)=some r∧R r h3) ->
   LeavesIn Fence.wide 0 E.P fn tm (fun e w'=>(∃v cv g' h',e=.returned cv∧R v h'∧g.le g'∧SimH E g' h' w'∧Rep g' v cv)∨∃u g' h',e=.panicked [{ v:=u,recovered:=false }]∧E.X u h'∧g.le g'∧SimH E g' h' w') D (ADE x) w2:=by
  intro x g2 w2 h2 tm hg S2 htm hd;rw[<-hD];refine leavesIn_cons (by cases x<;>simp [ADE]) (fun hn=>Bool.noConfusion hn) (f:=fd) (args := #[]++#[pv]) ?_ (fun _ _=>trivial) ((hd.2 g2 w2 _ S2 (hargs' g2 hg)).mono ?_)
  .simp only[invoke]
   rw[YU hd.1]
  .rintro e u' w' ⟨⟨v,rfl⟩,rfl,g3,h3,⟨r,hl3,hR⟩,hg3,S3⟩
   show LeavesIn _ _ _ _ _ _ [] (settle (UI x)) w';rw[AO6];have hpv:Rep g3 (.ptr h.length 0 0) pv:=(r3.mono hg).mono hg3
   have hs:Sim E tm.size (g3.reB fun _=>none) (fun i=>if i=2 then .ptr h.length 0 0 else .junk) h3 { tmps:=tm,defers:=[] } w':=by
    refine⟨S3.reB _,.nil,.inl rfl,fun k o hk=>(by cases hk),rfl,fun i=>?_⟩;show Rep _ (if i=2 then _ else _) _;split
    .rename_i hi
     subst hi;show Rep _ _ (tm.getD 2 undef);rw[htm];exact hpv.reB _
    .exact .junk _ _
   obtain⟨cv,hcv,hrep⟩:=AED (fn:=fn) (v:=r) hs (by rw[hres]; simp only[AB8,U5,↓reduceIte,hl3]);exact⟨cv,hcv,.inl ⟨r,cv,g3,h3,rfl,hR,r4.trans (hg.trans hg3),S3,hrep.reB g3.B⟩⟩
 rintro e w2 (⟨v,cv,g2,h2',rfl,hR1,hg2,S2,hr2⟩|⟨u,g2,h2',rfl,hX,hg2,S2⟩)
 .show Code.wpIn _ _ _ _ _ _ _
  obtain⟨h3,hst,hd⟩:=h1 h2' hR1;have p4:(Act.mk #[F,undef,pv,.func (.func fd) #[] #[pv],F,undef] D).put o4.dst cv=Act.mk #[F,undef,pv,.func (.func fd) #[] #[pv],F,cv] D:=by rw[e4.2.1]; rfl
  rw[p4];have hpv2:Rep g2 (.ptr h.length 0 0) pv:=r3.mono hg2;obtain⟨w3,hst2,S3⟩:=ABL (E:=E) S2.ofWx hst hpv2 (.fro (N7 _ z));refine wpIn_seq (A1D e5.2.2 ⟨fun _ _=>trivial,?_⟩)
  have x5:(execOp (Act.mk #[F,undef,pv,.func (.func fd) #[] #[pv],F,cv] D).eval o5).run E.P w2=.ok .skip w3:=by
   have hev:(Act.mk #[F,undef,pv,.func (.func fd) #[] #[pv],F,cv] D).eval (.tmp 2)=pv:=rfl;have hev2:(Act.mk #[F,undef,pv,.func (.func fd) #[] #[pv],F,cv] D).eval (.const z)=z:=rfl;unfold execOp;rw[e5.1];simp only[hev,hev2];simp [hst2]
  show o5.uponIn _ _ _ _ _ _ ((o5.semAt none _).run E.P w2);rw[Oper.semAt_none,x5,Oper.uponIn_skip,e5.2.1];show Code.wpIn _ _ _ _ _ _ _;refine wpIn_ret ?_;exact hend none g2 w3 h3 _ hg2 S3 rfl hd
 .show LeavesIn _ _ _ _ _ _ _ _ _
  exact hend (some u) g2 w2 h2' _ hg2 S2.ofWx rfl (h2 u h2' hX)

inductive PT where
 | done
 | ones (pre:List Nat) (t:PT)
 | alt (i:Nat) (t r:PT)
 | non
def PT.heads:PT->List Nat
 | .alt i _ r=>i::r.heads
 | _=>[]
def ZV (hs L:List Nat):Nat->List Oper->Bool
 | _,[]=>true
 | k,z::l=>(L.contains k||hs.contains k||z.after.toList.any (fun e=>Region.binds .any e && !L.contains e.on))&&ZV hs L (k+1) l
theorem ZU {hs L:List Nat}:∀ {l:List Oper} {k:Nat},ZV hs L k l=true->∀(n:Nat) (z:Oper),l[n]?=some z->L.contains (k+n)=true∨k+n∈hs∨∃e∈z.after,Region.binds .any e=true∧L.contains e.on=false
 | [],_,_,n,z,h=>by simp at h
 | y::l,k,ho,n,z,hz=>by
   unfold ZV at ho;rw[zB] at ho
   cases n with
   | zero =>
     simp at hz; subst hz;have h1:=ho.1;simp only[qO,zB,List.any_eq_true,Bool.not_eq_true'] at h1;rcases h1 with (h1|h1)|⟨e,h1,h2⟩
     .exact .inl h1
     .exact .inr (.inl (by simpa [List.contains_eq_mem] using h1))
     .exact .inr (.inr ⟨e,by simpa using h1,h2.1,h2.2⟩)
   | succ n =>
     have:=ZU ho.2 n z (by simpa using hz);rw[show k+1+n=k+(n+1) by omega] at this;exact this
theorem AJX {ops:Array Oper}{hs L:List Nat}{listed:Array Bool}{k:Nat}(hL:LS ops L listed)(ho:ZV hs L 0 ops.toList=true)(hk:k∈Region.ready .any ops listed):k∈hs:=by
 obtain⟨h1,z,h2,h3⟩:=mem_ready.1 hk;have hlt:k<ops.size:=(Array.getElem?_eq_some_iff.1 h2).1;rw[hL.getD hlt] at h1;rcases ZU ho k z (by simpa using h2) with h4|h4|⟨e,h5,h6,h7⟩
 .rw[jG,h1] at h4; cases h4
 .simpa using h4
 .have:=h3 e h5 h6
  rw[hL.getF,h7] at this; cases this
def ALQ (ops:Array Oper)(i:Nat)(L:List Nat):Bool:=match ops.toList[i]? with
 | none=>false
 | some x => !L.contains i&&AHM x L
theorem AG6 {ops:Array Oper}{i:Nat}{L:List Nat}{listed:Array Bool}(hL:LS ops L listed)(h:ALQ ops i L=true):i∈Region.ready .any ops listed:=by
 unfold ALQ at h
 cases hx:ops.toList[i]? with
 | none=>rw[hx] at h; cases h
 | some x =>
   rw[hx] at h;simp only[zB,Bool.not_eq_true'] at h;exact AIX hL (by simpa using hx) h.1 h.2
section
variable {E:Env} {md:Nat->Bool} {sep:List (Nat×Nat)} {ops:Array Oper} {K:Fr->Hp->Prop}
end
def lc (d:Option Tmp)(K:Fr->Hp->Prop):Fr->AV->Hp->Prop:=fun F v h=>K (EY F d v) h
theorem FT (K:Fr->Hp->Prop)(F:Fr)(v:AV)(h:Hp):lc none K F v h=K F h:=rfl
theorem FQ (d:Tmp)(K:Fr->Hp->Prop)(F:Fr)(v:AV)(h:Hp):lc (some d) K F v h=K (upd F d v) h:=rfl
theorem OT {E:Env}{H:Hint}{i:Nat}{l:List Oper}{F:Fr}{h:Hp}{Q:AEx->Fr->Hp->Prop}(n:Nat)(a b:Oper)(hl:(AR9 H.md [] (l.take n).toArray&&XQ (l.take n) a&&XQ (l.take (n+1)) b&&Nat.beq l.length (n+2))=true)(hn:l[n]?=some a)(hm:l[n+1]?=some b)(hga:a.guard=none)(hgb:b.guard=none)
  (hd:DD E H.md l (l.take n) F h fun F h=>X1 E (H.md (a.dst.getD 0)) a.op (F,h) (lc a.dst fun F h=>X1 E (H.md (b.dst.getD 0)) b.op (F,h) (lc b.dst (Q .normal)))):awp E H (.region i l.toArray true) F h Q:=by
 simp only[zB] at hl;obtain⟨⟨⟨h1,h2⟩,h3⟩,h4⟩:=hl;have h4:l.length=n+2:=Nat.eq_of_beq_eq_true h4;have hlt:n<l.length:=by omega
 have hlt1:n+1<l.length:=by omega
 have hxa:l[n]=a:=by rw[jX hlt] at hn; exact Option.some.inj hn
 have hxb:l[n+1]=b:=by rw[jX hlt1] at hm; exact Option.some.inj hm
 have e1:l.take n++[a]=l.take (n+1):=by rw[<-hxa,<-qK hlt]
 have e2:l.take (n+1)++[b]=l:=by rw[<-hxb,<-qK hlt1,zH (by omega)]
 have hg1:TL (l.take n) (l.take n).length=true:=by
  unfold XQ at h2;simp only[zB] at h2;exact h2.1.2
 have hg2:TL (l.take (n+1)) (l.take (n+1)).length=true:=by
  unfold XQ at h3;simp only[zB] at h3;exact h3.1.2
 have hd':D E H.md ((l.take n).map (·.dst)) (l.take n) F h (fun F h=>ANext E H.md ((l.take n++[a]).map (·.dst)) a (F,h) (fun s=>ANext E H.md ((l.take (n+1)++[b]).map (·.dst)) b s (fun s=>Q .normal s.1 s.2))):=by
  refine AH1 (last:=a) hg1 _ (fun o ho=>ho) F h ?_;rw[e1];refine AH1 (last:=b) hg2 _ (fun o ho=>by rw[<-e1]; exact List.mem_append_left _ ho) F h ?_;rw[e2];refine AH0 (fun F h hx=>?_) _ _ _ hd;refine .inl ⟨by rw[hga]; rfl,OL (fun v h' hv=>?_) hx⟩;exact .inl ⟨by rw[hgb]; rfl,hv⟩
 have hA:=ABT (E:=E) (md:=H.md) (sep:=[]) (ops:=(l.take n).toArray) (K:=fun F h=>ANext E H.md ((l.take n++[a]).map (·.dst)) a (F,h) (fun s=>ANext E H.md ((l.take (n+1)++[b]).map (·.dst)) b s (fun s=>Q .normal s.1 s.2))) (F:=F) (h:=h) h1 (by unfold AC3; rw[List.all_eq_true]; intro o _; cases o.dst<;>rfl) trivial (by simpa using hd')
 have hcl:∀ {L:List Oper},Closed L.toArray (Array.replicate L.toArray.size false):=fun {L} j o _ hj=>by
  rw[Array.getD_eq_getD_getElem?,Array.getElem?_replicate] at hj;split at hj<;>simp at hj
 have hN:=AQB h2 (l.take n).toArray.size (Array.replicate (l.take n).toArray.size false) (F,h) (by simp) hcl hA
 have hs1:(Array.replicate (l.take n).toArray.size false).push false=Array.replicate (l.take (n+1)).toArray.size false:=by
  have:(l.take n).toArray.size+1=(l.take (n+1)).toArray.size:=by simp; omega
  rw[<-this,Array.replicate_succ]
 have hz1:(l.take n).toArray.size+1=(l.take (n+1)).toArray.size:=by simp; omega
 rw[hs1,e1,hz1] at hN;have hN2:=AEF h3 (l.take (n+1)).toArray.size (Array.replicate (l.take (n+1)).toArray.size false) (F,h) (by simp) hcl hN
 have hs2:(Array.replicate (l.take (n+1)).toArray.size false).push false=Array.replicate l.toArray.size false:=by
  have:(l.take (n+1)).toArray.size+1=l.toArray.size:=by simp; omega
  rw[<-this,Array.replicate_succ]
 have hz2:(l.take (n+1)).toArray.size+1=l.toArray.size:=by simp; omega
 rw[hs2,e2,hz2] at hN2;exact hN2

def AZ4 (md:Nat->Bool)(o:Oper):Bool:=match md (o.dst.getD 0+1000000) with
 | true=>false
 | false=>match o.op with
   | .call { callee:=.value _,.. }=>false
   | .panic _=>false
   | _=>true
theorem AP4 {E:Env}{md:Nat->Bool}{ds:List (Option Tmp)}{o:Oper}{s:Fr×Hp}{P:Fr×Hp->Prop}(hd:AZ4 md o=true)(h:ANext E md ds o s P):∃s',AStep E md ds o s s'∧P s':=by
 unfold AZ4 at hd;split at hd
 .cases hd
 rename_i he;rcases h with⟨h1,h2⟩|⟨h1,h2⟩
 .unfold MQ at h2
  split at h2
  .rename_i hop; rw[hop] at hd; cases hd
  .rename_i hop; rw[hop] at hd; cases hd
  .rename_i hn1 hn2
   split at h2
   .rename_i v h' ha
    refine⟨_,.inl ⟨h1,v,h',?_,rfl⟩,h2⟩;unfold DExO;simp only[he];unfold DEx;split
    .rename_i f as ats hop; exact absurd hop (hn1 f as ats)
    .exact ha
   .exact h2.elim
 .exact⟨_,.inr ⟨h1,rfl⟩,h2⟩
theorem AKL {E:Env}{own:Bool}{op:Op}{F F':Fr}{h:Hp}{K:AV->Hp->Prop}(he:∀x∈op.operands,ev E F x=ev E F' x)(ha:MQ E own op F h K):MQ E own op F' h K:=by
 unfold MQ at *;split at ha
 .rename_i f as ats
  have h1:ev E F f=ev E F' f:=he f (by simp [Op.operands,Call.operands]);have h2:as.toList.map (ev E F)=as.toList.map (ev E F'):=List.map_congr_left fun x hx=>he x (by simp at hx; simp [Op.operands,Call.operands,hx])
  rw[h1,h2] at ha;exact ha
 .rename_i x
  rw[he x (by simp [Op.operands])] at ha;exact ha
 .rw[AGB he] at ha
  exact ha
def okN (md:Nat->Bool)(x y:Oper):Bool:=hkO md x==0||(VR md [] x y&&AZ4 md y)
theorem AMW {E:Env}{md:Nat->Bool}{ops:Array Oper}{x y:Oper}{s s1:Fr×Hp}{P:Fr×Hp->Prop}(hap:x.apart ops y=true)(hco:okN md x y=true)
  (hx:AStep E md (ops.toList.map (·.dst)) x s s1) (hy:ANext E md (ops.toList.map (·.dst)) y s1 P):ANext E md (ops.toList.map (·.dst)) y s fun t=>∃s2,AStep E md (ops.toList.map (·.dst)) x t s2∧P s2:=by
 unfold okN at hco;rw[qO] at hco;rcases hco with hc|hc
 .have hc:hkO md x=0:=by simpa using hc
  obtain⟨p1,p2,p3⟩:=Oper.apart_spec hap;obtain⟨F,h⟩:=s
  have exY:∀ {v:AV} {h1:Hp} {K:AV->Hp->Prop},MQ E (md (y.dst.getD 0)) y.op (EY F x.dst v) h1 K->MQ E (md (y.dst.getD 0)) y.op F h1 K:=fun hd =>
   AKL (fun z hz=>AHI fun d hdd he=>Y5 (p1 d hdd) z hz he) hd
  have exX:∀ {v u:AV} {h1 h2:Hp},DExO E md x F h1 u h2->DExO E md x (EY F y.dst v) h1 u h2:=fun hd =>
   YH (fun z hz=>(AHI fun d hdd he=>Y5 (p3 d hdd) z hz he).symm) hd
  have wY:∀v,KO (ops.toList.map (·.dst)) (EY F x.dst v) y.guard=KO (ops.toList.map (·.dst)) F y.guard:=fun v=>YL p1
  have wX:∀v,KO (ops.toList.map (·.dst)) (EY F y.dst v) x.guard=KO (ops.toList.map (·.dst)) F x.guard:=fun v=>YL p3
  rcases hx with⟨a1,v,h1,a2,rfl⟩|⟨a1,rfl⟩
  .obtain⟨rfl,hz⟩:=AEO hc a2
   rcases hy with⟨b1,b2⟩|⟨b1,b2⟩
   .simp only at b1 b2
    rw[wY] at b1;refine .inl ⟨b1,OL (fun u h' hp=>?_) (exY b2)⟩;exact⟨_,.inl ⟨by rw[wX]; exact a1,v,h',exX (hz h'),by rw[KY F v u p2]⟩,hp⟩
   .simp only at b1 b2
    rw[wY] at b1;exact .inr ⟨b1,_,.inl ⟨by rw[wX]; exact a1,v,_,exX (hz _),by rw[KY F v IQ p2]⟩,b2⟩
  .rcases hy with⟨b1,b2⟩|⟨b1,b2⟩
   .simp only at b1 b2
    rw[wY] at b1;refine .inl ⟨b1,OL (fun u h' hp=>?_) (exY b2)⟩;exact⟨_,.inr ⟨by rw[wX]; exact a1,by rw[KY F IQ u p2]⟩,hp⟩
   .simp only at b1 b2
    rw[wY] at b1;exact .inr ⟨b1,_,.inr ⟨by rw[wX]; exact a1,by rw[KY F IQ IQ p2]⟩,b2⟩
 .rw[zB] at hc
  obtain⟨s2,h1,h2⟩:=AP4 hc.2 hy;obtain⟨t,t1,t2⟩:=AEP (sep:=[]) trivial hap hc.1 hx h1;exact t1.next ⟨s2,t2,h2⟩
theorem AMK {E:Env}{md:Nat->Bool}{ops:Array Oper}{Q:Fr×Hp->Prop}{i:Nat}{oi:Oper}(hi:ops[i]?=some oi)(r:Nat->Bool)
  (hsup:∀j oj,ops[j]?=some oj->r j=true->j≠i->∃e∈oj.after,Region.binds .any e=true∧r e.on=true):∀(fuel:Nat) (listed:Array Bool) (s s1:Fr×Hp),
  (∀j,r j=true->listed.getD j true=false) ->
  (∀j oj,ops[j]?=some oj->j≠i->listed.getD j true=false->r j=false->oi.apart ops oj=true∧okN md oi oj=true) ->
  i∈Region.ready .any ops listed->AStep E md (ops.toList.map (·.dst)) oi s s1->U9 E md ops Q fuel (listed.setIfInBounds i true) s1->U9 E md ops Q (fuel+1) listed s:=by
 intro fuel
 induction fuel with
 | zero =>
   intro listed s s1 _ _ hr hy H;refine⟨fun h=>(by rw[h] at hr; cases hr),fun j hj=>?_⟩;by_cases hji:j=i
   .subst hji; exact⟨oi,hi,hy.next H⟩
   .have:=ready_mono hj hji
    rw[H.1] at this;cases this
 | succ fuel ih =>
   intro listed s s1 hun hfree hr hy H;refine⟨fun h=>(by rw[h] at hr; cases hr),fun j hj=>?_⟩;by_cases hji:j=i
   .subst hji; exact⟨oi,hi,hy.next H⟩
   .obtain⟨oj,hoj,hst⟩:=H.2 j (ready_mono hj hji)
    obtain⟨hjun,oj',hoj',hall⟩:=mem_ready.1 hj;rw[hoj] at hoj'; cases hoj'
    have hrj:r j=false:=by
     cases hc:r j with
     | false=>rfl
     | true =>
       obtain⟨e,he,hb,hre⟩:=hsup j oj hoj hc hji;have h1:=hall e he hb;have h0:=hun e.on hre;rcases Nat.lt_or_ge e.on listed.size with h'|h'
       .simp [h'] at h0 h1; rw[h0] at h1; cases h1
       .simp [Array.getElem?_eq_none h'] at h1
    obtain⟨q1,q2⟩:=hfree j oj hoj hji hjun hrj;have hsw:=AMW q1 q2 hy hst
    have hun':∀k,r k=true->(listed.setIfInBounds j true).getD k true=false:=fun k hk=>by
     by_cases hjk:j=k
     .subst hjk; rw[hrj] at hk; cases hk
     .rw[getD_set_ne true hjk]; exact hun k hk
    have hfree':∀k ok,ops[k]?=some ok->k≠i->(listed.setIfInBounds j true).getD k true=false->r k=false->oi.apart ops ok=true∧okN md oi ok=true:=fun k ok hk hki hun2 hno=>by
     refine hfree k ok hk hki ?_ hno;by_cases hjk:j=k
     .subst hjk; exact hjun
     .rw[getD_set_ne true hjk] at hun2; exact hun2
    refine⟨oj,hoj,hsw.mono fun t ⟨s2,t2,hrest⟩=>ih (listed.setIfInBounds j true) t s2 hun' hfree' (ready_mono hr (Ne.symm hji)) t2 ?_⟩;rw[Array.setIfInBounds_comm _ _ hji];exact hrest
def AN4 (md:Nat->Bool)(ops:Array Oper)(i:Nat)(x:Oper)(L:List Nat):Nat->List Oper->List Nat->Bool
 | _,[],_=>true
 | _,_::_,[]=>false
 | k,y::l,m::ms=>(match m.testBit i with
   | true => !L.contains k
   | false=>L.contains k||k==i||(okN md x y&&x.apart ops y))&&AN4 md ops i x L (k+1) l ms
theorem ADN {md:Nat->Bool}{ops:Array Oper}{i:Nat}{x:Oper}{L:List Nat}:∀ {l:List Oper} {ms:List Nat} {k:Nat},AN4 md ops i x L k l ms=true->ms.length=l.length->∀(j:Nat) (y:Oper),l[j]?=some y ->
  ((ms.getD j 0).testBit i=true∧L.contains (k+j)=false)∨((ms.getD j 0).testBit i=false∧(L.contains (k+j)=true∨k+j=i∨(x.apart ops y=true∧okN md x y=true)))
 | [],_,_,_,_,j,y,h=>by simp at h
 | _::_,[],_,_,hl,_,_,_=>by simp at hl
 | z::l,m::ms,k,hf,hl,j,y,hy=>by
   unfold AN4 at hf;rw[zB] at hf
   cases j with
   | zero =>
     simp at hy; subst hy;have h1:=hf.1;simp only[List.getD_cons_zero,Nat.add_zero]
     cases hb:m.testBit i with
     | true =>
       rw[hb] at h1;exact .inl ⟨rfl,by simpa using h1⟩
     | false =>
       rw[hb] at h1;simp only[qO,zB,beq_iff_eq] at h1;refine .inr ⟨rfl,?_⟩;rcases h1 with (h1|h1)|h1
       .exact .inl h1
       .exact .inr (.inl h1)
       .exact .inr (.inr ⟨h1.2,h1.1⟩)
   | succ j =>
     have:=ADN hf.2 (by simpa using hl) j y (by simpa using hy);rw[show k+1+j=k+(j+1) by omega] at this;simpa using this
def A1K (md:Nat->Bool)(ops:Array Oper)(i:Nat)(L:List Nat):Bool:=match ops.toList[i]? with
 | none=>false
 | some x => !L.contains i&&AHM x L&&AN4 md ops i x L 0 ops.toList (ABD ops.toList [])
def ANI (md:Nat->Bool)(ops:Array Oper):List Nat->List Nat->Bool
 | [],_=>true
 | i::r,L=>A1K md ops i L&&ANI md ops r (i::L)
theorem AGC {E:Env}{md:Nat->Bool}{ops:Array Oper}{Q:Fr×Hp->Prop}{K:Fr->Hp->Prop}{fuel:Nat}(hlow:W9 ops.toList 0=true):∀(pre L:List Nat) (listed:Array Bool) (F:Fr) (h:Hp),ANI md ops pre L=true ->
  LS ops L listed->D E md (ops.toList.map (·.dst)) (IE ops.toList pre) F h K ->
  (∀(F':Fr) (h':Hp) (listed':Array Bool),LS ops (pre.reverse++L) listed'->K F' h'->U9 E md ops Q fuel listed' (F',h'))->U9 E md ops Q (fuel+pre.length) listed (F,h)
 | [],L,listed,F,h,_,hL,hD,hn=>hn F h listed hL hD
 | i::r,L,listed,F,h,ho,hL,hD,hn=>by
   unfold ANI at ho;rw[zB] at ho;obtain⟨ho1,ho2⟩:=ho;unfold A1K at ho1
   cases hx:ops.toList[i]? with
   | none=>rw[hx] at ho1; cases ho1
   | some x =>
     rw[hx] at ho1;simp only[zB,Bool.not_eq_true'] at ho1;obtain⟨⟨h0,he⟩,hf⟩:=ho1;have hi:ops[i]?=some x:=by simpa using hx
     have hlt:i<ops.size:=(Array.getElem?_eq_some_iff.1 hi).1;unfold IE at hD;rw[hx] at hD;obtain⟨s',h1,h2⟩:=AUG hD;have hspec:=ADN hf (by rw[XH]; simp)
     refine AMK hi (fun j=>decide (j=i)||OC ops i j) (fun j oj hj hr hne=>?_) (fuel+r.length) listed (F,h) s' (fun j hr=>?_) (fun j oj hj hne hun hr=>?_) (AIX hL hi h0 he) h1
      (AGC hlow r (i::L) _ s'.1 s'.2 ho2 (hL.next hlt) h2 (fun F' h' l' a c=>hn F' h' l' (by simpa using a) c))
     .simp only[qO,decide_eq_true_eq] at hr
      rcases hr with hr|hr
      .exact absurd hr hne
      .obtain⟨e,he,hb,_,h7⟩:=SE hlow hj hr
       exact⟨e,he,hb,by simpa using h7⟩
     .simp only[qO,decide_eq_true_eq] at hr
      rcases hr with rfl|hr
      .rw[hL.getD hlt,h0]
      .have h3:=V5 hr
       have h4:=hspec j ops[j] (by simp [h3]);rw[jG] at h4;rw[hL.getD h3];rcases h4 with h4|h4
       .exact h4.2
       .unfold OC at hr
        rw[h4.1] at hr; cases hr
     .have h3:j<ops.size:=(Array.getElem?_eq_some_iff.1 hj).1
      rw[hL.getD h3] at hun;simp only[Bool.or_eq_false_iff,decide_eq_false_iff_not] at hr;have h4:=hspec j oj (by simpa using hj);rw[jG] at h4;rcases h4 with h4|⟨_,h4|h4|h4⟩
      .unfold OC at hr
       rw[h4.1] at hr; cases hr.2
      .rw[hun] at h4; cases h4
      .exact absurd h4 hne
      .exact h4
def AN5 (ops:Array Oper)(i:Nat):Bool:=match ops.toList[i]? with
 | some o=>o.guard.isNone
 | none=>false
mutual
def AEX (md:Nat->Bool)(ops:Array Oper):PT->Nat->List Nat->Bool
 | .done,n,L=>Nat.beq n 0&&allIn L 0 ops.toList
 | .ones pre t,n,L=>Nat.ble pre.length n&&ANI md ops pre L&&AEX md ops t (n-pre.length) (pre.reverse++L)
 | .alt i t r,n,L=>Nat.ble 1 n&&ALQ ops i L&&ZV (i::r.heads) L 0 ops.toList&&AN5 ops i&&AEX md ops t (n-1) (i::L)&&API md ops r (n-1) L
 | .non,_,_=>false
def API (md:Nat->Bool)(ops:Array Oper):PT->Nat->List Nat->Bool
 | .alt i t r,n,L=>AN5 ops i&&AEX md ops t n (i::L)&&API md ops r n L
 | .non,_,_=>true
 | _,_,_=>false
end
def DN (E:Env)(md:Nat->Bool)(ops:List Oper)(K:Fr->Hp->Prop):PT->Fr->Hp->Prop
 | .done,F,h=>K F h
 | .ones pre t,F,h=>DD E md ops (IE ops pre) F h (fun F h=>DN E md ops K t F h)
 | .alt i t r,F,h=>(match ops[i]? with|some o=>X1 E (md (o.dst.getD 0)) o.op (F,h) (lc o.dst fun F h=>DN E md ops K t F h)|none=>False)∧DN E md ops K r F h
 | .non,_,_=>True
section
variable {E:Env} {md:Nat->Bool} {ops:Array Oper} {K:Fr->Hp->Prop}
def AYT (E:Env)(md:Nat->Bool)(ops:Array Oper)(K:Fr->Hp->Prop)(t:PT):Prop :=
 (∀n L listed F h,AEX md ops t n L=true->LS ops L listed->DN E md ops.toList K t F h->U9 E md ops (fun s=>K s.1 s.2) n listed (F,h)) ∧
 (∀n L listed F h,API md ops t n L=true->LS ops L listed->DN E md ops.toList K t F h->∀k∈t.heads,k∈Region.ready .any ops listed->∃o,ops[k]?=some o∧ANext E md (ops.toList.map (·.dst)) o (F,h) fun s'=>U9 E md ops (fun s=>K s.1 s.2) n (listed.setIfInBounds k true) s')
theorem AFB {i:Nat}{t:PT}{n:Nat}{L:List Nat}{listed:Array Bool}{F:Fr}{h:Hp}(ht:AYT E md ops K t)(hg:AN5 ops i=true)(h1:AEX md ops t n (i::L)=true)(hL:LS ops L listed)
  (hd:match ops.toList[i]? with|some o=>X1 E (md (o.dst.getD 0)) o.op (F,h) (lc o.dst fun F h=>DN E md ops.toList K t F h)|none=>False) (hk:i∈Region.ready .any ops listed):∃o,ops[i]?=some o∧ANext E md (ops.toList.map (·.dst)) o (F,h) fun s'=>U9 E md ops (fun s=>K s.1 s.2) n (listed.setIfInBounds i true) s':=by
 obtain⟨_,z,h2,_⟩:=mem_ready.1 hk;have hlt:i<ops.size:=(Array.getElem?_eq_some_iff.1 h2).1;have hx:ops.toList[i]?=some z:=by simpa using h2
 rw[hx] at hd;unfold AN5 at hg;rw[hx] at hg;have hgn:z.guard=none:=by simpa using hg
 refine⟨z,h2,.inl ⟨by rw[hgn]; rfl,OL (fun v h' hv=>?_) hd⟩⟩;exact ht.1 n (i::L) _ _ _ h1 (hL.next hlt) hv
theorem AO0 (hlow:W9 ops.toList 0=true)(t:PT):AYT E md ops K t:=by
 induction t with
 | done =>
   refine⟨fun n L listed F h ho hL hd=>?_,fun n L listed F h ho=>by simp [API] at ho⟩;simp only[AEX,zB] at ho;obtain rfl:n=0:=Nat.eq_of_beq_eq_true ho.1;exact⟨ready_nil hL ho.2,hd⟩
 | ones pre t ih =>
   refine⟨fun n L listed F h ho hL hd=>?_,fun n L listed F h ho=>by simp [API] at ho⟩;simp only[AEX,zB] at ho;obtain⟨⟨h1,h2⟩,h3⟩:=ho;have hn:n-pre.length+pre.length=n:=Nat.sub_add_cancel (jH h1);have:=AGC (E:=E) (Q:=fun s=>K s.1 s.2) (fuel:=n-pre.length) hlow pre L listed F h h2 hL hd (fun F' h' l' hL' hK=>ih.1 _ _ l' F' h' h3 hL' hK);rw[hn] at this;exact this
 | alt i t r iht ihr =>
   refine⟨fun n L listed F h ho hL hd=>?_,fun n L listed F h ho hL hd k hk hr=>?_⟩
   .simp only[AEX,zB] at ho
    obtain⟨⟨⟨⟨⟨h1,h0⟩,h2⟩,hg⟩,h3⟩,h4⟩:=ho;obtain⟨n,rfl⟩:∃m,n=m+1:=⟨n-1,by have:=jH h1; omega⟩
    obtain⟨d1,d2⟩:=hd;refine⟨fun hnil=>?_,fun k hk=>?_⟩
    .have:=AG6 hL h0
     rw[hnil] at this; cases this
    .rcases qY.1 (AJX hL h2 hk) with rfl|hm
     .exact AFB iht hg h3 hL d1 hk
     .exact ihr.2 n L listed F h h4 hL d2 k hm hk
   .simp only[API,zB] at ho
    obtain⟨d1,d2⟩:=hd;rcases qY.1 hk with rfl|hm
    .exact AFB iht ho.1.1 ho.1.2 hL d1 hr
    .exact ihr.2 n L listed F h ho.2 hL d2 k hm hr
 | non =>
   refine⟨fun n L listed F h ho=>by simp [AEX] at ho,fun n L listed F h ho hL hd k hk=>by cases hk⟩
end
theorem EW {E:Env}{H:Hint}{n:Nat}{l:List Oper}{F:Fr}{h:Hp}{Q:AEx->Fr->Hp->Prop}(t:PT)(hl:(W9 l.toArray.toList 0&&AEX H.md l.toArray t l.toArray.size [])=true)
  (hd:DN E H.md l (Q .normal) t F h):awp E H (.region n l.toArray true) F h Q:=by
 simp only[zB] at hl;have hL0:LS l.toArray [] (Array.replicate l.toArray.size false):=⟨by simp,fun k hk=>by simp at hk; simp [hk],fun k hk=>by cases hk⟩;exact(AO0 (E:=E) (K:=Q .normal) hl.1 t).1 _ _ _ F h hl.2 hL0 hd
theorem SB (E:Env)(F:Fr)(h:Hp)(own:Bool)(c:Fr->AV->Hp->Prop)(t:TypeId)(m k x:Operand):Y1 E own (.mapUpdate t m k x) (F,h) c=X1 E own (.mapUpdate t m k x) (F,h) c:=rfl
theorem AAB (E:Env)(F:Fr)(h:Hp)(own:Bool)(c:Fr->AV->Hp->Prop)(t:TypeId):Y1 E own (.makeMap t none) (F,h) c=X1 E own (.makeMap t none) (F,h) c:=rfl
theorem AQO (E:Env)(F:Fr)(h:Hp)(own:Bool)(c:Fr->AV->Hp->Prop)(x y z:Operand)(ts:Array TypeId):X1 E own (.call { callee:=.builtin .min,args := #[x,y,z],argTypes:=ts }) (F,h) c=IW (ofO h (RQ Z5 (ev E F x) [ev E F y,ev E F z])) (c F):=rfl
theorem ANP (k:IntKind)(a b c:Int):RQ Z5 (.int k a) [.int k b,.int k c]=some (.int k (min (min a b) c)):=by simp [RQ,Z5]
theorem JG (P:Program)(a t u v:Nat)(R:AV->Hp->Prop)(F:Fr)(h:Hp)(b i j:Nat)(hF:F a=.ptr b i j):EK P [.cell a t,.tmp u,.tmp v] R .ret F h =∃r,DF P h t (.ptr b i j)=some r∧R (.tup [r,F u,F v]) h:=by
 simp only[EK,AB8,TR,U5,hF];cases DF P h t (.ptr b i j)<;>simp
theorem vQ:type_of% (And.intro @A7 (And.intro @A8 (And.intro @AA (And.intro @AB (And.intro @AC (And.intro @AL (And.intro @AO (And.intro @AQ (And.intro @AU (And.intro @AX (And.intro @AY (And.intro @AZ (And.intro @BA (And.intro @BB (And.intro @BC (And.intro @BF (And.intro @BG (And.intro @BH (And.intro @BI (And.intro @BJ (And.intro @BK (And.intro @BL (And.intro @BM (And.intro @BN (And.intro @BP (And.intro @BQ (And.intro @BR (And.intro @BU (And.intro @BV (And.intro @BX (And.intro @BZ (And.intro @CE (And.intro @CG (And.intro @CJ (And.intro @CO (And.intro @CP (And.intro @CQ (And.intro @CW (And.intro @CX (And.intro @CY (And.intro @D5 (And.intro @D8 (And.intro @D9 (And.intro @DC (And.intro @DI (And.intro @DK (And.intro @DL (And.intro @DR (And.intro @DT (And.intro @DU (And.intro @DV (And.intro @DW (And.intro @DZ (And.intro @E8 (And.intro @EC (And.intro @ED (And.intro @EG (And.intro @EH (And.intro @EI (And.intro @EJ (And.intro @EM (And.intro @EN (And.intro @EO (And.intro @EP (And.intro @EQ (And.intro @ES (And.intro @ET (And.intro @EU (And.intro @EX (And.intro @F6 (And.intro @F9 (And.intro @FB (And.intro @FC (And.intro @FD (And.intro @FH (And.intro @FK (And.intro @FM (And.intro @FN (And.intro @FP (And.intro @FQ (And.intro @FT (And.intro @FU (And.intro @FV (And.intro @FZ (And.intro @G5 (And.intro @G6 (And.intro @G8 (And.intro @GH (And.intro @GK (And.intro @GR (And.intro @GU (And.intro @GZ (And.intro @H7 (And.intro @H9 (And.intro @I9 (And.intro @IA (And.intro @IB (And.intro @IC (And.intro @IG (And.intro @JB (And.intro @JC (And.intro @JF (And.intro @JL (And.intro @KE (And.intro @L8 (And.intro @N8 (And.intro @OY (And.intro @wxP (And.intro @Bool.not_false (And.intro @List.append_nil.{0} (And.intro @List.map_cons.{0,0} (And.intro @List.map_nil.{0,0} (And.intro @Nat.add_zero (And.intro @Nat.zero_add (@Option.getD_some.{0}))))))))))))))))))))))))))))))))))))))))))))))))))))))))))))))))))))))))))))))))))))))))))))))))))))))))))))))))))):=And.intro @A7 (And.intro @A8 (And.intro @AA (And.intro @AB (And.intro @AC (And.intro @AL (And.intro @AO (And.intro @AQ (And.intro @AU (And.intro @AX (And.intro @AY (And.intro @AZ (And.intro @BA (And.intro @BB (And.intro @BC (And.intro @BF (And.intro @BG (And.intro @BH (And.intro @BI (And.intro @BJ (And.intro @BK (And.intro @BL (And.intro @BM (And.intro @BN (And.intro @BP (And.intro @BQ (And.intro @BR (And.intro @BU (And.intro @BV (And.intro @BX (And.intro @BZ (And.intro @CE (And.intro @CG (And.intro @CJ (And.intro @CO (And.intro @CP (And.intro @CQ (And.intro @CW (And.intro @CX (And.intro @CY (And.intro @D5 (And.intro @D8 (And.intro @D9 (And.intro @DC (And.intro @DI (And.intro @DK (And.intro @DL (And.intro @DR (And.intro @DT (And.intro @DU (And.intro @DV (And.intro @DW (And.intro @DZ (And.intro @E8 (And.intro @EC (And.intro @ED (And.intro @EG (And.intro @EH (And.intro @EI (And.intro @EJ (And.intro @EM (And.intro @EN (And.intro @EO (And.intro @EP (And.intro @EQ (And.intro @ES (And.intro @ET (And.intro @EU (And.intro @EX (And.intro @F6 (And.intro @F9 (And.intro @FB (And.intro @FC (And.intro @FD (And.intro @FH (And.intro @FK (And.intro @FM (And.intro @FN (And.intro @FP (And.intro @FQ (And.intro @FT (And.intro @FU (And.intro @FV (And.intro @FZ (And.intro @G5 (And.intro @G6 (And.intro @G8 (And.intro @GH (And.intro @GK (And.intro @GR (And.intro @GU (And.intro @GZ (And.intro @H7 (And.intro @H9 (And.intro @I9 (And.intro @IA (And.intro @IB (And.intro @IC (And.intro @IG (And.intro @JB (And.intro @JC (And.intro @JF (And.intro @JL (And.intro @KE (And.intro @L8 (And.intro @N8 (And.intro @OY (And.intro @wxP (And.intro @Bool.not_false (And.intro @List.append_nil.{0} (And.intro @List.map_cons.{0,0} (And.intro @List.map_nil.{0,0} (And.intro @Nat.add_zero (And.intro @Nat.zero_add (@Option.getD_some.{0}))))))))))))))))))))))))))))))))))))))))))))))))))))))))))))))))))))))))))))))))))))))))))))))))))))))))))))))))))
end Go.Proofs.YtgnoolgeijmlaaaGreatDoor.Sm
