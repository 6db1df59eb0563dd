/- Lemmas. -/
import Derived.Test.YtjcimanddakkaaaGreatDoorCT21
import Derived.Test.YtjcimanddakkaaaGreatDoorCT23
set_option maxRecDepth 100000
set_option maxHeartbeats 8000000
namespace Go.Proofs.YtjcimanddakkaaaGreatDoor
open Go.Value renaming bool→fn,map→fs,slice→h2,int→J
open _root_.Option renaming some→X,none→Y
open Go.IntKind renaming i64→U,u8→hg
open Go.Obj renaming cells→hi
open Go.Ending renaming returned→ih
open Go.Lib renaming hid→Z
open Tryz
open _root_.Nat renaming le_refl→ka,le_trans→kc,lt_of_lt_of_le→lp,zero_le→lP,mul_le_mul→l1
open _root_.List renaming length_map→kb,getD_eq_getElem?_getD→kd,mem_singleton→kk,replicate→kl,getElem?_eq_getElem→kq,mem_append→ks,length_append→kt,getElem_set_self→la,getElem_mem→ld,range→lm,take_succ_eq_append_getElem→ls,pairwise_map→lv,nodup_append→lx,getElem?_map→lB,take_of_length_le→l2,getElem?_eq_none→l4,length_flatMap→l5
open Go renaming Value→ko,World→lb
open Go.RowKit.Below renaming refl→kv
open Go.Obj renaming cells→lf,noConfusion→lE
open Go.World.ownsRow renaming form→lk
open Go.Value renaming bool→lQ
open Go.Calls renaming mono→lT
open Go.World renaming alloc_heap_new→l3,ownsRow_nil→l6
section
open Go.RowKit Go.Maps Go.Shelf
def ig(l:List aG)(q:Nat)(a:List Bs)(s:Bs)(i:Nat):Prop:=i<q/\s∈rawR (l.getD i rec0).fields∨i=q/\s∈a
theorem kJ(l:List aG)(p:Nat×Nat):cameR l 0 [] p=false:=by unfold cameR;simp
theorem xX{l:List aG}{q:Nat}{d:List Bs}{s:Bs}(g:s∉d)(p:Nat×Nat):cameR l q (d++[s]) p=true↔cameR l q d p=true∨p.2=q/\ig l q d s p.1:=by
 unfold cameR ig;simp only[Bool.and_eq_true,Bool.or_eq_true,decide_eq_true_eq,List.any_append,List.any_cons,List.any_nil,Bool.or_false,List.contains_iff_mem];constructor
 .rintro⟨c,⟨a,b⟩|⟨a,b|b⟩⟩
  .exact .inl ⟨c,.inl ⟨a,b⟩⟩
  .exact .inl ⟨c,.inr ⟨a,b⟩⟩
  exact .inr ⟨a,.inl ⟨by omega,b⟩⟩
 rintro(⟨c,a|⟨a,b⟩⟩|⟨a,⟨b,e⟩|⟨_,e⟩⟩)
 .exact⟨c,.inl a⟩
 .exact⟨c,.inr ⟨a,.inl b⟩⟩
 .exact⟨by omega,.inr ⟨a,.inr e⟩⟩
 exact absurd e g
theorem oX(l:List aG)(q:Nat)(p:Nat×Nat):cameR l (q+1) [] p=true↔cameR l q (keysR (l.getD q rec0).fields) p=true:=by
 unfold cameR;have g:=(iy (l.getD q rec0).fields).2;simp only[Bool.and_eq_true,Bool.or_eq_true,decide_eq_true_eq,List.any_nil,Bool.false_eq_true,and_false,or_false,List.any_eq_true,List.contains_iff_mem];constructor
 .rintro⟨c,h,x,b,a⟩;by_cases e:p.2<q
  .exact⟨c,.inl ⟨e,x,b,a⟩⟩
  have d:p.2=q:=by omega
  rw[d]at a;exact⟨c,.inr ⟨d,x,(g x).2 a,b⟩⟩
 rintro⟨c,⟨e,x,b,a⟩|⟨e,x,b,a⟩⟩
 .exact⟨c,by omega,x,b,a⟩
 refine⟨c,by omega,x,a,?_⟩;rw[e];exact(g x).1 b
theorem zG(l:List aG)(q:Nat)(s:Bs)(i:Nat):ig l (q+1) [] s i↔ig l q (keysR (l.getD q rec0).fields) s i:=by
 unfold ig;have b:=(iy (l.getD q rec0).fields).2;simp only[List.not_mem_nil,and_false,or_false];constructor
 .rintro⟨d,a⟩;by_cases e:i<q
  .exact .inl ⟨e,a⟩
  have c:i=q:=by omega
  subst c;exact .inr ⟨rfl,(b s).2 a⟩
 rintro(⟨d,a⟩|⟨rfl,a⟩)
 .exact⟨by omega,a⟩
 exact⟨by omega,(b s).1 a⟩
theorem zF(l:List aG)(q:Nat)(c:List Bs)(s t:Bs)(i:Nat):ig l q (c++[s]) t i↔ig l q c t i∨t=s/\i=q:=by
 unfold ig;simp only[ks,kk];constructor
 .rintro(h|⟨b,a|a⟩)
  .exact .inl (.inl h)
  .exact .inl (.inr ⟨b,a⟩)
  exact .inr ⟨a,b⟩
 rintro((h|⟨b,a⟩)|⟨b,a⟩)
 .exact .inl h
 .exact .inr ⟨b,.inl a⟩
 exact .inr ⟨a,.inr b⟩
theorem wS{K:Type}[DecidableEq K](l:List K)(k:K):∃a:List K,putL (l.map λs=>(s,lQ true)) k (fn true)=a.map (λs=>(s,lQ true))/\(∀s,s∈a↔s∈l∨s=k)/\a.length<=l+1:=by
 refine⟨l.filter (λs=> !decide (s=k))++[k],?_,λs=>?_,by have:=List.length_filter_le (λs=> !decide (s=k)) l;simp;omega⟩
 .unfold putL cK;rw[List.filter_map,List.map_append];rfl
 simp only[ks,List.mem_filter,kk,Bool.not_eq_true',decide_eq_false_iff_not];constructor
 .rintro(⟨h,_⟩|h)
  .exact .inl h
  exact .inr h
 rintro(h|h)
 .by_cases e:s=k
  .exact .inr e
  exact .inl ⟨h,e⟩
 exact .inr h
theorem yb{P:Program}{e:TypeId}{K:Type}[DecidableEq K]{B:eJ P e K}{w:lb}{b:Nat}{l:List K}(h:an B w b (l.map λs=>(s,fn true)))(k:K):∃z:Bool,(z=true↔k∈l)/\(lookL (l.map λs=>(s,lQ true)) k).getD (fn false)=fn z:=by
 by_cases hm:k∈l
 .exact⟨true,⟨λ_=>hm,λ_=>rfl⟩,by rw[(bC h.nodup).2 (List.mem_map.2 ⟨k,hm,rfl⟩)];rfl⟩
 exact⟨false,⟨λh=>(by cases h),λh=>absurd h hm⟩,by
  rw[ix.2 (λv d=>by
   obtain⟨s,c,a⟩:=List.mem_map.1 d;injection a with h1 _
   exact hm (h1▸c))]
  rfl⟩
theorem DC:(prog.info? 208).map (λi=>(i.zero,i.size,i.bytes))=X (X (.agg #[fs Y,.string ⟨#[]⟩,h2 Y 0 0,J U 0,J hg 0]),5,64):=by kernel_rfl
theorem i67:(prog.info? 67).map (λi=>(i.zero,i.size,i.bytes))=X (X (.agg #[J U 0,J U 0]),2,16):=by kernel_rfl
theorem i3:(prog.info? 3).map (λi=>(i.zero,i.size,i.bytes))=X (X (J U 0),1,8):=by kernel_rfl
structure FT where
 a:Option Nat
 b:Bs
 c:Option Addr
 c1:Nat
 c2:Nat
 d:Int
 e:UInt8
def ftCells(t:FT):List ko:=[.map t.a,S t.b,h2 t.c t.c1 t.c2,J U t.d,J hg t.e]
def ftV(t:FT):ko:=.agg #[.map t.a,S t.b,h2 t.c t.c1 t.c2,t.d,J hg t.e]
def ft0:FT:=⟨Y,[],Y,0,0,0,0⟩
def C8(f:Nat)(w:lb)(g:Nat):Prop:=(f<=g/\∃a c,w.heap[g]?=X (.map a c))∨∃c,w.heap[g]?=X (hi c 9 (0,0))
theorem an.mp{P:Program}{e:TypeId}{K:Type}[DecidableEq K]{B:eJ P e K}{w:lb}{b:Nat}{l:List (K×ko)}(h:an B w b l):∃a c,w.heap[b]?=X (.map a c):=by
 obtain⟨a,⟨g,c,d,_⟩,_⟩:=h;exact⟨_,_,d⟩
theorem co.kept{f:Nat}{w w':lb}{v:ko}{r:aG}(h:co f w v r)(i:∀g,C8 f w g->w'.heap[g]?=w.heap[g]?):co f w' v r:=by
 obtain⟨b,n,c,a,rfl,e,⟨l,d,k⟩,j⟩:=h;exact⟨b,n,c,a,rfl,e,⟨l,d.block (i b (.inl ⟨e,d.mp⟩)),k⟩,aj j (λg m=>i g (.inr (aK j m)))⟩
theorem co.mono{f d:Nat}{w:lb}{v:ko}{r:aG}(h:co f w v r)(e:d<=f):co d w v r:=by
 obtain⟨b,n,c,a,rfl,i,g,j⟩:=h;exact⟨b,n,c,a,rfl,kc e i,g,aD j e⟩
theorem co.form{f:Nat}{w:lb}{v:ko}{r:aG}(h:co f w v r):∃t,v=ftV t:=by
 obtain⟨b,n,c,a,rfl,_⟩:=h;exact⟨⟨X b,aN r.fields,a,n,c,bx r.fields,r.kind⟩,rfl⟩
theorem co.below{f:Nat}{w w':lb}{v:ko}{r:aG}(h:co f w v r)(a:Bw w w'):co f w' v r:=
 h.kept λg b=>a.block g (by
  rcases b with⟨_,d,c,h⟩|⟨c,h⟩
  .exact af h
  .exact af h)
def kN(f lo:Nat)(w:lb)(KB:Nat)(l:List aG)(q:Nat):Prop:=
 ∃a:List FT,a.length=l/\w.ownsRow lo 208 5 (h2 KB l l) l (a.flatMap ftCells)/\∀i,i<q->co f w (ftV (a.getD i ft0)) (l.getD i rec0)
theorem kN.blk{f lo:Nat}{w:lb}{KB:Nat}{l:List aG}{q:Nat}(h:kN f lo w KB l q):(∃b,w.heap[KB]?=X (hi b 208 (0,0)))/\KB<w/\lo<=KB:=by
 obtain⟨c,_,a,_⟩:=h;have:=a.lt KB rfl;exact⟨aK a rfl,this.2,this.1⟩
theorem kN.kept{f lo:Nat}{w w':lb}{KB:Nat}{l:List aG}{q:Nat}(h:kN f lo w KB l q)(d:w'.heap[KB]?=w.heap[KB]?)(k:∀g,C8 f w g->w'.heap[g]?=w.heap[g]?):kN f lo w' KB l q:=by
 obtain⟨m,a,b,c⟩:=h;exact⟨m,a,aj b (λg e=>by
  have:KB=g:=by simpa[Value.ownBlock]using e
  exact this▸d),λi j=>(c i j).kept k⟩
theorem kN.get{f lo:Nat}{w:lb}{KB:Nat}{l:List aG}{q:Nat}(h:kN f lo w KB l q){i:Nat}(u:i<l):∃t:FT,(i<q->co f w (ftV t) (l.getD i rec0))/\
 w.cell? ⟨KB,i*5,Y⟩=X (.map t.a)/\w.cell? ⟨KB,i*5+1,Y⟩=X (S t.b)/\w.cell? ⟨KB,i*5+2,Y⟩=X (h2 t.c t.c1 t.c2)/\w.cell? ⟨KB,i*5+3,Y⟩=X (J U t.d)/\w.cell? ⟨KB,i*5+4,Y⟩=X (J hg t.e):=by
 obtain⟨k,s,n,o⟩:=h;have m:i<k:=by omega
 refine⟨k[i],λr=>?_,?_⟩
 .have:=o i r;rwa[kd,kq m]at this
 have g:∀j,j<5->w.cell? ⟨KB,i*5+j,Y⟩=(ftCells k[i])[j]?:=λj p=>by rw[n.cellAt (i*5+j) (by omega),cE ftCells 5 (λ_=>rfl) k i m j p]
 exact⟨(g 0 (by omega)).trans rfl,(g 1 (by omega)).trans rfl,(g 2 (by omega)).trans rfl,(g 3 (by omega)).trans rfl,(g 4 (by omega)).trans rfl⟩
theorem kN.frozen{f lo:Nat}{w:lb}{KB:Nat}{l:List aG}{q:Nat}(h:kN f lo w KB l q)(j:Nat):w.frozen? ⟨KB,j,Y⟩=false:=by
 obtain⟨⟨b,a⟩,_⟩:=h.blk;exact ae a j
def putKn(W:lb)(KB q:Nat)(t:FT):lb:=((((W.setCell ⟨KB,q*5,Y⟩ (.map t.a)).setCell ⟨KB,q*5+1,Y⟩ (S t.b)).setCell ⟨KB,q*5+2,Y⟩ (h2 t.c t.c1 t.c2)).setCell ⟨KB,q*5+3,Y⟩ t.d).setCell ⟨KB,q*5+4,Y⟩ (J hg t.e)
theorem i7(W:lb)(KB q:Nat)(t:FT):aF KB W (putKn W KB q t):=(((((aF.refl KB W).setCell _ _).setCell _ _).setCell _ _).setCell _ _).setCell _ _
theorem kN.put{f lo:Nat}{w:lb}{KB:Nat}{l:List aG}{q:Nat}(h:kN f lo w KB l q)(I:q<l){t:FT}(y:co f w (ftV t) (l.getD q rec0)):kN f lo (putKn w KB q t) KB l (q+1):=by
 have p:∀g,C8 f w g->(putKn w KB q t).heap[g]?=w.heap[g]?:=λg x=>(i7 w KB q t).block g (by
  rintro rfl;obtain⟨⟨E,o⟩,_⟩:=h.blk;rcases x with⟨_,F,c,h⟩|⟨c,h⟩
  .rw[o]at h;injection h with h;exact lE h
  rw[o]at h;injection h with h;injection h with _ h;exact absurd h (by decide))
 obtain⟨j,r,s,u⟩:=h;have k:q<j:=by omega
 refine⟨j.set q t,by simpa using r,?_,λi G=>?_⟩
 .have z:=(s.stored (q*5) (.map t.a)).1;have A:=(z.stored (q*5+1) (S t.b)).1;have B:=(A.stored (q*5+2) (h2 t.c t.c1 t.c2)).1;have D:=(B.stored (q*5+3) t.d).1;have m:=(D.stored (q*5+4) (J hg t.e)).1;have n:=fg ftCells 5 (λ_=>rfl) j q 0 (.map t.a) {j[q]with a:=t.a} k (by omega) rfl;rw[Nat.add_zero]at n;rw[n]at m
  rw[fg ftCells 5 (λ_=>rfl) _ q 1 (S t.b) ⟨t.a,t.b,j[q].c,j[q].c1,j[q].c2,j[q].d,j[q].e⟩ (by simpa using k) (by omega) (by rw[la];rfl),List.set_set,
   fg ftCells 5 (λ_=>rfl) _ q 2 (h2 t.c t.c1 t.c2) ⟨t.a,t.b,t.c,t.c1,t.c2,j[q].d,j[q].e⟩ (by simpa using k) (by omega) (by rw[la];rfl),List.set_set,
   fg ftCells 5 (λ_=>rfl) _ q 3 t.d ⟨t.a,t.b,t.c,t.c1,t.c2,t.d,j[q].e⟩ (by simpa using k) (by omega) (by rw[la];rfl),List.set_set,
   fg ftCells 5 (λ_=>rfl) _ q 4 (J hg t.e) t (by simpa using k) (by omega) (by rw[la];rfl),List.set_set]at m
  exact m
 by_cases e:i=q
 .subst e;rw[show(j.set i t).getD i ft0=t by rw[kd,List.getElem?_set_self k];rfl];exact y.kept p
 rw[show(j.set q t).getD i ft0=j.getD i ft0 by rw[kd,List.getElem?_set_ne (λh=>e h.symm),kd]];exact(u i (by omega)).kept p
def gF(a:List Nat):List ko:=a.map λi:Nat=>Value.int U (i:Int)
def Cj(lo:Nat)(w:lb)(BY:Nat)(H:Bs->Nat->Prop)(N:Nat):Prop:=
 ∃m:List (Bs×ko),an tQ w BY m/\m<=N/\(∀s,lookL m s=Y->∀i,¬H s i)/\(∀s v,lookL m s=X v->∃a:List Nat,w.ownsRow lo 3 1 v a (gF a)/\a.Nodup/\∀i,i∈a↔H s i)/\
  ∀b c d e,lookL m b=X d->lookL m c=X e->b≠c->d.ownBlock≠e.ownBlock
theorem Cj.kept{lo:Nat}{w w':lb}{BY:Nat}{H:Bs->Nat->Prop}{N:Nat}(h:Cj lo w BY H N)(n:w'.heap[BY]?=w.heap[BY]?)(o:∀(g:Nat)(c:Array ko),w.heap[g]?=X (lf c 3 (0,0))->w'.heap[g]?=w.heap[g]?):Cj lo w' BY H N:=by
 obtain⟨m,b,d,e,i,j⟩:=h;refine⟨m,b.block n,d,e,λs v t=>?_,j⟩;obtain⟨u,a,k⟩:=i s v t;exact⟨u,aj a (λg r=>by obtain⟨c,p⟩:=aK a r;exact o g c p),k⟩
def DG(w:lb)(SE:Nat)(C:Nat×Nat->Prop):Prop:=∃m:List RK,an CM w SE (m.map λp=>(p,fn true))/\∀p:RK,p∈m↔∃i k:Nat,p=((i:Int),(k:Int))/\C (i,k)
def cX(p:Nat×Nat):List ko:=[J U (p.1:Int),J U (p.2:Int)]
structure PR(lo f KB BY SE:Nat)(w1 W:lb)(l:List aG)(q:Nat)(H:Bs->Nat->Prop)(C O:Nat×Nat->Prop)(N:Nat)(v:ko):Prop where
 b:Below lo w1 W
 kn:kN f lo W KB l q
 plc:Cj lo W BY H N
 se:DG W SE C
 o:∃os:List (Nat×Nat),W.ownsRow lo 67 2 v os (os.flatMap cX)/\os.Nodup/\∀p,p∈os↔O p
 ne:BY≠SE
 los:lo<=BY/\lo<=SE/\BY<f/\SE<f/\lo<=W
 cb:∀p,C p->p.1<p.2/\p.2<l
 ob:∀p,O p->C p
section
variable {lo f KB BY SE:Nat} {w1 W:lb} {l:List aG} {q:Nat} {H:Bs->Nat->Prop} {C O:Nat×Nat->Prop} {N:Nat} {v:ko}
theorem PR.below(h:PR lo f KB BY SE w1 W l q H C O N v){e:lb}(a:Bw W e):PR lo f KB BY SE w1 e l q H C O N v:=by
 obtain⟨m,i,n⟩:=h.se;obtain⟨w,j,o⟩:=h.o;obtain⟨y,c1,_⟩:=id h.plc;obtain⟨p,r,s,t,k⟩:=h.los;exact⟨h.b.trans (a.mono k),h.kn.kept (a.block _ h.kn.blk.2.1) (λg d=>a.block g (by
  rcases d with⟨_,x,c,h⟩|⟨c,h⟩
  .exact af h
  exact af h)),h.plc.kept (a.block _ c1.lt) (λg c u=>a.block g (af u)),⟨m,i.block (a.block _ i.lt),n⟩,⟨w,aj j (λg d=>a.block g (j.lt g d).2),o⟩,h.ne,⟨p,r,s,t,kc k a.size⟩,h.cb,h.ob⟩
theorem PR.congr(h:PR lo f KB BY SE w1 W l q H C O N v){c:Bs->Nat->Prop}{a d:Nat×Nat->Prop}{e:Nat}(n:∀s i,c s i↔H s i)(r:∀p,a p↔C p)(u:∀p,d p↔O p)(x:N<=e):PR lo f KB BY SE w1 W l q c a d e v:=by
 have o:c=H:=funext λs=>funext λi=>propext (n s i);have t:a=C:=funext λp=>propext (r p);have w:d=O:=funext λp=>propext (u p);subst o t w;refine⟨h.b,h.kn,?_,h.se,h.o,h.ne,h.los,h.cb,h.ob⟩;obtain⟨m,g,j,k⟩:=h.plc;exact⟨m,g,kc j x,k⟩
theorem PR.known(h:PR lo f KB BY SE w1 W l q H C O N v)(y:q<l){t:FT}(z:co f W (ftV t) (l.getD q rec0)):PR lo f KB BY SE w1 (putKn W KB q t) l (q+1) H C O N v:=by
 have a:=i7 W KB q t;obtain⟨⟨D,d⟩,E,x⟩:=h.kn.blk;obtain⟨m,i,k⟩:=h.se;obtain⟨A,j,n⟩:=h.o;obtain⟨F,c1,_⟩:=id h.plc;obtain⟨o,p,r,s,u⟩:=h.los;refine⟨h.b.trans (a.below x),h.kn.put y z,h.plc.kept (a.block _ (ak c1 d)) (λg c e=>a.block g (dw e d (by decide))),⟨m,i.block (a.block _ (ak i d)),k⟩,⟨A,aj j (λg e=>a.block g ?_),n⟩,h.ne,⟨o,p,r,s,by rw[a.size];exact u⟩,h.cb,h.ob⟩;obtain⟨B,w⟩:=aK j e;exact dw w d (by decide)
theorem mx{n:Nat}{m:List RK}(hn:m.Nodup)(h:∀p∈m,∃i k:Nat,p=((i:Int),(k:Int))/\i<n/\k<n):m<=n*n:=by
 have:=fK m ((lm n).flatMap λi:Nat=>(lm n).map λk:Nat=>(((i:Nat):Int),(k:Int))) hn (λp c=>by obtain⟨i,k,rfl,a,b⟩:=h p c;exact List.mem_flatMap.2 ⟨i,List.mem_range.2 a,List.mem_map.2 ⟨k,List.mem_range.2 b,rfl⟩⟩)
 refine kc this ?_;rw[l5];have:((lm n).map λi=>((lm n).map λk=>(((i:Nat):Int),((k:Nat):Int))).length)=kl n n:=by apply List.ext_getElem?;intro j;by_cases hj:j<n<;>simp[hj]
 rw[this];simp
theorem PR.seen(h:PR lo f KB BY SE w1 W l q H C O N v)(I:l.length<=1000)(i k:Nat)(a3:i<k)(hk:k<l):
 ∃b:Bool,(b=true↔C (i,k))/\(Instr.lookup 205 (fs (X SE)) (.agg #[(i:Int),(k:Int)]) false).run prog W=.ok (fn b) W/\
 ∃u,(Instr.mapUpdate 205 (fs (X SE)) (.agg #[(i:Int),(k:Int)]) (fn true)).run prog W=.ok () u/\PR lo f KB BY SE w1 u l q H (λp=>C p∨p=(i,k)) O N v/\∀(g:Nat)(c:Array ko)(t:TypeId),W.heap[g]?=X (lf c t (0,0))->u.heap[g]?=W.heap[g]?:=by
 obtain⟨m,d,A⟩:=h.se;have L:rkOk ((i:Int),(k:Int)):=by unfold rkOk i64B;dsimp only;omega
 have G:=an.look d underlying205 (z:=fn false) (by kernel_rfl) ((i:Int),(k:Int)) L;obtain⟨z,hz,a7⟩:=yb d ((i:Int),(k:Int));rw[a7]at G;refine⟨z,?_,G,?_⟩
 .rw[hz,A];constructor
  .rintro⟨w,y,s,a⟩;injection s with D E
   have D:i=w:=by omega
   have E:k=y:=by omega
   subst D E;exact a
  exactλa=>⟨i,k,rfl,a⟩
 have a6:m.Nodup:=by have:=d.nodup;rwa[List.map_map,show((λx:RK×ko=>x.1) ∘ λp:RK=>(p,lQ true))=id from rfl,List.map_id]at this
 have a5:=mx (n:=l.length) a6 (λp r=>by obtain⟨i,k,rfl,a⟩:=(A p).1 r;have:=h.cb _ a;exact⟨i,k,rfl,by omega,this.2⟩)
 have ac:m.length<=1000000:=kc a5 (kc (l1 I I) (by omega));obtain⟨u,hr,K,j⟩:=an.put_run d underlying205 (by rw[kb];unfold maxLen;omega) ((i:Int),(k:Int)) L (fn true);refine⟨u,hr,?_,λg c t o=>j.block g (ak d o).symm⟩;obtain⟨m',e,a4,_⟩:=wS m ((i:Int),(k:Int));rw[e]at K;obtain⟨⟨a8,a⟩,a9,aa⟩:=h.kn.blk;obtain⟨os,B,M⟩:=h.o;obtain⟨mb,c1,_⟩:=id h.plc;obtain⟨P,F,Q,R,T⟩:=h.los;refine⟨h.b.trans (j.below F),h.kn.kept (j.block _ (ak d a).symm) (λg o=>j.block g ?_),h.plc.kept (j.block _ h.ne) (λg c o=>j.block g (ak d o).symm),⟨m',K,λp=>?_⟩,⟨os,aj B (λg o=>j.block g ?_),M⟩,h.ne,⟨P,F,Q,R,by rw[j.size];exact T⟩,λp r=>?_,λp r=>.inl (h.ob p r)⟩
 .rcases o with⟨hf,_⟩|⟨c,V⟩
  .omega
  exact(ak d V).symm
 .rw[a4,A];constructor
  .rintro(⟨w,y,s,a⟩|rfl)
   .exact⟨w,y,s,.inl a⟩
   exact⟨i,k,rfl,.inr rfl⟩
  rintro⟨w,y,s,a|a⟩
  .exact .inl ⟨w,y,s,a⟩
  injection a with c1 c2
  subst c1 c2;exact .inr s
 .obtain⟨cu,a0⟩:=aK B o;exact(ak d a0).symm
 rcases r with r|rfl
 .exact h.cb p r
 exact⟨a3,hk⟩
theorem PR.outs(h:PR lo f KB BY SE w1 W l q H C O N v){i k:Nat}(y:C (i,k))(hn:¬O (i,k)){n u:lb}(o:Bw W n){K:ko}(d:n.grownBy u v.ownBlock){s:List (Nat×Nat)}(a6:W.ownsRow lo 67 2 v s (s.flatMap cX)/\s.Nodup/\∀p,p∈s↔O p)(hr:u.ownsRow lo 67 2 K (s.length+1) (s.flatMap cX++[J U (i:Int),J U (k:Int)])):
 PR lo f KB BY SE w1 u l q H C (λp=>O p∨p=(i,k)) N K:=by
 have r:=h.below o;obtain⟨w,o2,I⟩:=a6;have w:=aj w (λg d=>o.block g (w.lt g d).2);have a7:∀g,v.ownBlock=X g->∃x,n.heap[g]?=X (hi x 67 (0,0)):=λg d=>aK w d;have a4:∀g,v.ownBlock=X g->lo<=g:=λg d=>(w.lt g d).1;have G:∀g,g<n.heap.size->(∀c,n.heap[g]?≠X (lf c 67 (0,0)))->u.heap[g]?=n.heap[g]?:=λg hl a5=>d.block g hl (λe=>by obtain⟨x,a3⟩:=a7 g e.symm;exact a5 x a3);obtain⟨m,D,L⟩:=r.se;obtain⟨mb,c1,_⟩:=id r.plc;obtain⟨⟨a8,a0⟩,aa,a9⟩:=r.kn.blk;obtain⟨P,Q,R,T,F⟩:=r.los;have z:∀{b:Nat},(∃E c,n.heap[b]?=X (.map E c))->u.heap[b]?=n.heap[b]?:=λ⟨E,c,o⟩=>G _ (af o) (λM j=>by rw[o]at j;injection j with j;exact lE j);have B:∀{b:Nat}{c:Array ko}{t:TypeId},n.heap[b]?=X (lf c t (0,0))->t≠67->u.heap[b]?=n.heap[b]?:=λo ht=>G _ (af o) (λM j=>by rw[o]at j;injection j with j;injection j with _ j;exact ht j);refine⟨r.b.grown d F a4,r.kn.kept (B a0 (by decide)) (λg d=>?_),r.plc.kept (z c1.mp) (λg c d=>B d (by decide)),⟨m,D.block (z D.mp),L⟩,⟨s++[(i,k)],by rw[kt,List.flatMap_append];exact hr,?_,λp=>by rw[ks,kk,I]⟩,r.ne,⟨P,Q,R,T,kc F d.size⟩,r.cb,λp A=>?_⟩
 .rcases d with⟨_,hm⟩|⟨c,y⟩
  .exact z hm
  exact B y (by decide)
 .rw[lx];exact⟨o2,by simp,λa V b o=>by rw[List.mem_singleton.1 o];rintro rfl;exact hn ((I _).1 V)⟩
 rcases A with A|rfl
 .exact h.ob p A
 exact y
theorem PR.places(h:PR lo f KB BY SE w1 W l q H C O N v)(hN:N<=100000000000000000)(s:Bs)(hs:s.length<=1000000000)(k:Nat)(hk:¬H s k):
 ∃(x:ko)(n:List Nat),(Instr.lookup 204 (fs (X BY)) (S s) false).run prog W=.ok x W/\W.ownsRow lo 3 1 x n (gF n)/\n.Nodup/\(∀i,i∈n↔H s i)/\
 ∀(y:ko)(o E:lb),Bw W o->o.grownBy E x.ownBlock->E.ownsRow lo 3 1 y (n.length+1) (gF n++[J U (k:Int)])->(y.ownBlock=x.ownBlock∨y.ownBlock=X o.heap.size)->
  ∃F,(Instr.mapUpdate 204 (fs (X BY)) (S s) y).run prog E=.ok () F/\PR lo f KB BY SE w1 F l q (λt i=>H t i∨t=s/\i=k) C O (N+1) v/\∀(g:Nat)(c:Array ko),o.heap[g]?=X (lf c 9 (0,0))->F.heap[g]?=o.heap[g]?:=by
 obtain⟨m,a1,a2,a3,a4,a5⟩:=id h.plc;have ad:s<=maxLen:=by unfold maxLen;omega
 have ac:=an.look a1 underlying204 (z:=h2 Y 0 0) (by kernel_rfl) s ad;have hx:∃(x:ko)(n:List Nat),(lookL m s).getD (h2 Y 0 0)=x/\W.ownsRow lo 3 1 x n (gF n)/\n.Nodup/\(∀i,i∈n↔H s i)/\(∀t u,lookL m t=X u->t≠s->x.ownBlock≠u.ownBlock∨x.ownBlock=Y):=by
  cases T:lookL m s with
  |none=>exact⟨_,[],rfl,l6 _ _ _ _,List.nodup_nil,λi=>⟨λh=>(by cases h),λh=>absurd h (a3 s T i)⟩,λ_ _ _ _=>.inr rfl⟩
  |some x=> obtain⟨n,Q,b2,R⟩:=a4 s x T;exact⟨x,n,rfl,Q,b2,R,λt u r p=>.inl (a5 s t x u T r (λe=>p e.symm))⟩
 obtain⟨x,n,e,Q,b2,R,b4⟩:=hx;rw[e]at ac;refine⟨x,n,ac,Q,b2,R,λy o E j a6 hr aC=>?_⟩;have B:=h.below j;have o1:=aj Q (λg d=>j.block g (Q.lt g d).2);have b6:∀g,x.ownBlock=X g->∃P,o.heap[g]?=X (hi P 3 (0,0)):=λg d=>aK o1 d;have az:∀g,x.ownBlock=X g->lo<=g:=λg d=>(o1.lt g d).1;have aa:∀g,g<o.heap.size->(∀c,o.heap[g]?≠X (lf c 3 (0,0)))->E.heap[g]?=o.heap[g]?:=λg T A=>a6.block g T (λe=>by obtain⟨P,K⟩:=b6 g e.symm;exact A P K);have a8:∀{b:Nat},(∃es c,o.heap[b]?=X (.map es c))->E.heap[b]?=o.heap[b]?:=λ⟨es,c,j⟩=>aa _ (af j) (λc' w=>by rw[j]at w;injection w with w;exact lE w);have b5:∀{b:Nat}{c:Array ko}{t:TypeId},o.heap[b]?=X (lf c t (0,0))->t≠3->E.heap[b]?=o.heap[b]?:=λj p=>aa _ (af j) (λc' w=>by rw[j]at w;injection w with w;injection w with _ w;exact p w);have V:=a1.block (j.block _ a1.lt);have a9:=V.block (a8 V.mp);obtain⟨F,b0,aS,L⟩:=an.put_run a9 underlying204 (by unfold maxLen;omega) s ad y;refine⟨F,b0,?_⟩;obtain⟨ms,s1,s2⟩:=B.se;obtain⟨⟨bb,av⟩,bd,bc⟩:=B.kn.blk;obtain⟨g1,g2,g3,g4,g5⟩:=B.los;obtain⟨os,q1,q2⟩:=B.o;have bk:=a6.size;have a0:∀{b:Nat}{c:Array ko}{t:TypeId},o.heap[b]?=X (lf c t (0,0))->t≠3->F.heap[b]?=o.heap[b]?:=λj p=>(L.block _ (λe=>by have:=ak V j;exact this e.symm)).trans (b5 j p)
 have au:Below lo w1 F:=(B.b.grown a6 g5 az).trans (L.below g1);refine⟨⟨au,B.kn.kept (a0 av (by decide)) (λg d=>?_),?_,⟨ms,s1.block ((L.block _ (λe=>B.ne e.symm)).trans (a8 s1.mp)),s2⟩,⟨os,aj q1 (λg d=>?_),q2⟩,B.ne,⟨g1,g2,g3,g4,by rw[L.size];omega⟩,B.cb,B.ob⟩,λg c d=>a0 d (by decide)⟩
 .rcases d with⟨hf,hm⟩|⟨c,hc⟩
  .exact(L.block g (by omega)).trans (a8 hm)
  exact a0 hc (by decide)
 .have al:∀t u,lookL m t=X u->t≠s->y.ownBlock≠u.ownBlock:=λt u r p=>by
   have b7:∀g,u.ownBlock=X g->g<o:=λg d=>by obtain⟨_,c1,_⟩:=a4 t u r;exact lp (c1.lt g d).2 j.size
   have b8:y.ownBlock≠Y:=λe0=>by obtain⟨g,b9,he,_⟩:=lk hr (by omega);rw[he]at e0;cases e0
   intro ao;rcases aC with G|G
   .rcases b4 t u r p with I|I
    .exact I (G.symm.trans ao)
    exact b8 (G.trans I)
   have:=b7 _ (ao.symm.trans G);omega
  refine⟨_,aS,kc (A0 m s y) (by omega),λt p i=>?_,λt u r=>?_,λt1 t2 u1 u2 M D A=>?_⟩
  .rw[dH]at p;split at p
   .cases p
   rename_i A;rintro(hh|⟨rfl,_⟩)
   .exact a3 t p i hh
   exact A rfl
  .rw[dH]at r;split at r
   .rename_i I;injection r with r
    subst r I;refine⟨n++[k],?_,?_,λi=>?_⟩
    .rw[kt];have:gF (n++[k])=gF n++[J U (k:Int)]:=by unfold gF;rw[List.map_append];rfl
     rw[this];exact aj hr (λg d=>L.block g (λe=>by obtain⟨P,K⟩:=aK hr d;exact ak a9 K e.symm))
    .rw[lx];exact⟨b2,by simp,λa ha b j=>by rw[List.mem_singleton.1 j];rintro rfl;exact hk ((R _).1 ha)⟩
    rw[ks,kk,R];simp
   rename_i A;obtain⟨zs,c1,c2,c3⟩:=a4 t u r;refine⟨zs,aj c1 (λg d=>?_),c2,λi=>?_⟩
   .have ay:=d;have a7:=(c1.lt g ay).2;obtain⟨P,K⟩:=aK c1 d;have ax:=(j.block g a7).trans K;have aT:g≠BY:=λe=>ak V ax e.symm;rw[L.block g aT,a6.block g (lp a7 j.size) (λe=>?_)]
    .exact j.block g a7
    rcases b4 t u r A with e3|e3
    .exact e3 (e.symm.trans d.symm)
    rw[e3]at e;cases e
   rw[c3];constructor
   .exact .inl
   rintro(h|⟨rfl,_⟩)
   .exact h
   exact absurd rfl A
  rw[dH]at M D;split at M
  .rename_i G;injection M with M
   subst M G;rw[if_neg (λe=>A e.symm)]at D;exact al t2 u2 D (λe=>A e.symm)
  split at D
  .rename_i G I;injection D with D
   subst D I;exactλe=>al t1 u1 M A e.symm
  exact a5 t1 t2 u1 u2 M D A
 obtain⟨P,K⟩:=aK q1 d;exact a0 K (by decide)
end
end
section
open Go.RowKit Go.Maps Go.Shelf
def rdCells(p:aG×ko):List ko:=[J hg p.1.kind,J hg p.1.level,p.2]
def jU(w:lb)(v:ko)(a:List (aG×ko)):Prop:=aL 0 w w v a (a.flatMap rdCells)/\∀p∈a,ah 0 w w p.2 p.1.fields
theorem jU.get{w:lb}{v:ko}{c:List (aG×ko)}(h:jU w v c)(i:Nat)(e:i<c):
 ∃b d g,v=h2 (X ⟨b,d,Y⟩) c g/\b<w/\w.cell? ⟨b,d+i*3,Y⟩=X (J hg c[i].1.kind.toNat)/\w.cell? ⟨b,d+i*3+1,Y⟩=X (J hg c[i].1.level.toNat)/\w.cell? ⟨b,d+i*3+2,Y⟩=X c[i].2:=by
 obtain⟨a,g,t,h⟩:=h.1;have r:c.flatMap rdCells≠[]:=by
  cases c with
  |nil=>simp at e
  |cons s l=>simp[rdCells]
 obtain⟨b,d,p,u,o,j⟩:=h r;subst p;have k:=cE rdCells 3 (λ_=>rfl) c i e 0 (by omega);have m:=cE rdCells 3 (λ_=>rfl) c i e 1 (by omega);have n:=cE rdCells 3 (λ_=>rfl) c i e 2 (by omega);exact⟨b,d,g,t,o,j _ _ k,by rw[Nat.add_assoc];exact j _ _ m,by rw[Nat.add_assoc];exact j _ _ n⟩
theorem jU.below{w w':lb}{v:ko}{a:List (aG×ko)}(h:jU w v a)(c:Bw w w'):aL 0 w w' v a (a.flatMap rdCells)/\∀p∈a,ah 0 w w' p.2 p.1.fields:=
 ⟨aL.kept h.1 (λg _ b=>c.block g b),λp d=>(h.2 p d).kept (λg _ b=>c.block g b)⟩
theorem Bl(n:Nat):(madeCells (ftV ft0).cells (n*5)).toList=(kl n ft0).flatMap ftCells:=by
 apply List.ext_getElem?;intro j;by_cases hj:j<n*5
 .have a:j/5<(kl n ft0).length:=by rw[List.length_replicate];omega
  have e:=cE ftCells 5 (λ_=>rfl) (kl n ft0) (j/5) a (j%5) (by omega);rw[show j/5*5+j%5=j by omega,List.getElem_replicate]at e;rw[e];have b:∀r,r<5->(ftCells ft0)[r]?=X ((ftV ft0).cells[r]!):=by intro r g;rcases r with _|_|_|_|_|r<;>first|rfl|omega
  rw[b _ (by omega)];have d:(ftV ft0).cells.size=5:=rfl;simp[madeCells,hj,d]
 have c:((kl n ft0).flatMap ftCells).length=n*5:=by rw[l5,List.map_replicate];simp[ftCells]
 rw[l4 (by rw[Array.length_toList,size_madeCells];omega),l4 (by rw[c];omega)]
theorem ur(w:lb)(n:Nat)(hn:n<=1000):∃wa,(Instr.makeSlice 203 (n:Int) (n:Int)).run prog w=.ok (h2 w n n) wa/\
 wa.ownsRow w 208 5 (h2 w n n) n ((kl n ft0).flatMap ftCells)/\Bw w wa:=by
 obtain⟨i,e,k,h,d⟩:=info_parts DC;obtain⟨wa,b,a,c⟩:=run_makeSlice_full (P:=prog) w w 203 208 i (ftV ft0) 5 underlying203 e k h U U n (by omega) (by rw[d];omega) (by unfold maxLen;omega) (ka _);rw[Bl]at a;exact⟨wa,b,a,(kv _ w).grown c (ka _) (λj g=>by cases g)⟩
theorem PR.new{w wa:lb}(l:List aG)(h:wa.ownsRow w 208 5 (h2 w l l) l ((kl l ft0).flatMap ftCells))(d:Bw w wa):
 PR w (wa.heap.size+2) w wa (wa.heap.size+1) ((wa.alloc (.map #[] 0)).alloc (.map #[] 0)) ((wa.alloc (.map #[] 0)).alloc (.map #[] 0)) l 0 (ig l 0 []) (λp=>cameR l 0 [] p=true) (λp=>cameR l 0 [] p=true/\40<=pointsR (l.getD p.1 rec0) (l.getD p.2 rec0)) 0 (h2 Y 0 0):=by
 have o:=d.size;have n:(wa.alloc (.map #[] 0)).heap.size=wa+1:=by simp
 have e:Bw wa ((wa.alloc (.map #[] 0)).alloc (.map #[] 0)):=((kv _ wa).alloc (ka _) _).alloc (by simp) _;refine⟨kv _ _,⟨kl l ft0,by simp,aj h (λg j=>e.block g (h.lt g j).2),λi m=>absurd m (by omega)⟩,⟨[],(an.made wa).alloc _,ka _,λs _ i=>?_,λs v b=>(by cases b),λ_ _ _ _ b=>(by cases b)⟩,⟨[],?_,λp=>⟨λh=>(by cases h),?_⟩⟩,⟨[],l6 _ _ _ _,List.nodup_nil,λp=>⟨λh=>(by cases h),?_⟩⟩,by omega,⟨by omega,by omega,by omega,by omega,by simp;omega⟩,λp a=>?_,λp a=>a.1⟩
 .rintro(⟨c,_⟩|⟨_,c⟩)
  .omega
  cases c
 .rw[<- n];exact an.made _
 .rintro⟨i,k,_,h⟩;rw[kJ]at h;cases h
 .rintro⟨h,_⟩;rw[kJ]at h;cases h
 rw[kJ]at a;cases a
theorem jG{a:List (aG×ko)}{i:Nat}(b:i<a):(a.map (·.1)).getD i rec0=a[i].1:=by
 rw[kd,lB,kq b];rfl
theorem eW{a:List ag}(h:br a):(bi a).length<=1000000000:=by
 have b:=cM h ek [97];have c:=ef (textF (firstF a ek) [97]);unfold bi;omega
theorem AX{a:List ag}(h:br a):(keysR a).length<=10000000000000:=by
 have b:=kX ((rawR a).mergeSort leB);rw[List.length_mergeSort]at b;have c:=dt a a h;rw[List.take_length]at c;have d:(rawR a).length<=(booksR a).length+1:=by unfold rawR;rw[kt,kb];split<;>simp
 have e:(keysR a).length<=(rawR a).length:=b;omega
theorem BH{c:List ag}(h:br c){s:Bs}(i:s∈keysR c):s.length<=1000000000:=by
 have a:=((iy c).2 s).1 i;unfold rawR at a;rcases List.mem_append.1 a with a|a
 .obtain⟨b,d,rfl⟩:=List.mem_map.1 a;have:b.length<=13:=by
   unfold booksR at d;obtain⟨f,_,d⟩:=List.mem_flatMap.1 d;unfold qK at d;split at d
   .obtain⟨u,_,e⟩:=List.mem_filterMap.1 d;split at e
    .exact ev e
    cases e
   cases d
  unfold isbnK;rw[kt];have g:([105,115,98,110,32]:Bs).length=5:=rfl;omega
 split at a
 .cases a
 rw[kk]at a;subst a;have j:=j5 c h;have k:((bi c).headD []).length<=4000000:=by
  unfold bi;cases hw:wordsR (textF (firstF c ek) [97])with
  |nil=>simp
  |cons z zs=> have m:=gR (textF (firstF c ek) [97]) z (by rw[hw];simp);have g:=cM h ek [97];simp only[List.headD_cons];omega
 unfold j6;simp only[kt];have n:([116,105,116,108,101,32]:Bs).length=6:=rfl;have o:([32,47,32]:Bs).length=3:=rfl;omega
theorem ow{C:Nat×Nat->Prop}{i q:Nat}{zs:List Nat}(h:C (i,q)∨(i,q).2=q/\(i,q).1∈zs)(p:Nat×Nat):(C p∨p.2=q/\p.1∈zs)↔(C p∨p.2=q/\p.1∈zs++[i]):=by
 obtain⟨a,b⟩:=p;dsimp only at h ⊢;rw[ks,kk];constructor
 .rintro(c|⟨c,d⟩)
  .exact .inl c
  exact .inr ⟨c,.inl d⟩
 rintro(c|⟨c,d|d⟩)
 .exact .inl c
 .exact .inr ⟨c,d⟩
 subst c d;exact h.imp id (λh=>h)
theorem uh{C:Nat×Nat->Prop}{i q:Nat}{zs:List Nat}(p:Nat×Nat):(C p∨p.2=q/\p.1∈zs++[i])↔((C p∨p.2=q/\p.1∈zs)∨p=(i,q)):=by
 obtain⟨a,b⟩:=p;dsimp only;rw[ks,kk,Prod.mk.injEq];constructor
 .rintro(c|⟨c,d|d⟩)
  .exact .inl (.inl c)
  .exact .inl (.inr ⟨c,d⟩)
  exact .inr ⟨d,c⟩
 rintro((c|⟨c,d⟩)|⟨c,d⟩)
 .exact .inl c
 .exact .inr ⟨c,.inl d⟩
 exact .inr ⟨d,.inr c⟩
def nt(p:Nat×Nat):RK:=((p.1:Int),(p.2:Int))
theorem vS(a:List (Nat×Nat)):a.flatMap cX=(a.map nt).flatMap rkCells:=by
 rw[List.flatMap_map];rfl
theorem yL{l:List aG}{c:List (Nat×Nat)}(hn:c.Nodup)(h:∀p,p∈c↔p∈pairsR l):de ltRK (c.map nt)=(pairsR l).map nt:=by
 have d:=pT l;have g:∀a,ltNN a a≠true:=λa h=>by rw[jH]at h;omega
 have i:(pairsR l).Nodup:=d.imp λ{a b}h e=>by rw[e]at h;exact g _ h
 refine cB aY (((List.perm_ext_iff_of_nodup hn i).2 h).map _) ?_;rw[lv];refine d.imp λ{a b}h=>?_;rw[jH]at h;rw[fM];unfold nt;dsimp only;omega
theorem zg(w:lb)(v:ko)(z:List (aG×ko))(h:jU w v z)(hn:z.length<=1000)(ao:∀p∈z,br p.1.fields):
 Calls prog 79 #[v] w λe w'=>∃v':ko,e=ih v'/\w'.ownsRow w 67 2 v' (pairsR (z.map (·.1))).length ((pairsR (z.map (·.1))).flatMap cX)/\Bw w w':=by
 obtain⟨wa,iF,gs,cc⟩:=ur w z hn;have aC:(z.map (·.1)).length=z:=kb _;obtain⟨a8,ft⟩:∃B:Nat,B=10000000000000:=⟨_,rfl⟩;have e8:=Z ft;clear ft;have b4:=Z (PR.new (w:=w) (wa:=wa) (z.map (·.1)) (by rw[aC];exact gs) cc);obtain⟨l,hl⟩:=Qe (z.map (·.1));have f9:Hid (∀i(M:i<z.length),z[i].1=l.getD i rec0):=λi M=>by rw[<- hl,jG M]
 have d0:Hid (∀i,i<l.length->br (l.getD i rec0).fields):=λi M=>by
  have g9:i<z:=by rw[<- aC,hl];exact M
  rw[<- hl,jG g9];exact ao _ (ld g9)
 rw[hl]at b4 aC ⊢;have f8:=Z h;obtain⟨av,cv,rfl,_⟩:=h.1;obtain⟨w1,ci⟩:=Qe ((wa.alloc (.map #[] 0)).alloc (.map #[] 0));rw[ci]at b4;have g0:Bw w w1:=by rw[<- ci];have hz:=cc.size;exact(cc.alloc hz _).alloc (by simp;omega) _
 have e7:=Z g0;have hQ:=Z ci;obtain⟨BY,c6⟩:=Qe wa.heap.size;have fz:(wa.alloc (.map #[] 0)).heap.size=BY+1:=by rw[<- c6];simp
 rw[c6]at b4;have ha:=Z c6;have jn:=Z fz;obtain⟨n,dk⟩:=Qe z.length;have bY:=Z dk;rw[dk]at hn aC iF ⊢;have b1:=Z aC;have k6:= @run_makeMap prog;clear h gs cc ci g0 c6 fz hl dk aC ao;go_enter func79,ntmps79;go_upto_region 6 with fail;rw[hQ.o,ha.o];obtain⟨KB,c7⟩:=Qe w.heap.size;have em:=Z c7;rw[c7]at b4 ⊢;have fb:Hid (∀W,Below KB w1 W->Bw w W/\aL 0 w W (h2 av n cv) n (z.flatMap rdCells)/\∀p∈z,ah 0 w W p.2 p.1.fields):=λW hb=>by have b7:Bw w W:=e7.o.trans (hb.mono (by rw[<- c7];exact ka _));have:=f8.below b7;rw[bY.o]at this;exact⟨b7,this⟩
 clear c7;go_loopw [6,21] (λv i wr=>∃q:Nat,q<=n/\i=J U q/\Hid (PR KB (BY+2) KB BY (BY+1) w1 wr l q (ig l q []) (λp=>cameR l q [] p=true) (λp=>cameR l q [] p=true/\40<=pointsR (l.getD p.1 rec0) (l.getD p.2 rec0)) (q*a8) v)) (λ_ i _=>n-(intOf i).toNat)
 exact⟨0,lP _,rfl,by rw[Nat.zero_mul];exact b4.o⟩;obtain⟨q,hq,rfl,HP⟩:=hrel;by_cases aS:q<n;rotate_left
 .obtain rfl:q=n:=by omega
  obtain⟨I,dq,aT,ds⟩:=HP.o.o;have gi:I.length<=1000000:=by
   have y:=mx (n:=l.length) (m:=I.map nt) (by
    rw[List.Nodup,lv];refine List.Pairwise.imp ?_ aT;intro a b d7 e;injection e with e1 e2
    exact d7 (Prod.ext (by omega) (by omega))) (λp hp=>by
    obtain⟨o,ho,rfl⟩:=List.mem_map.1 hp;have:=HP.cb _ (HP.ob _ ((ds o).1 ho));exact⟨o.1,o.2,rfl,by omega,this.2⟩)
   rw[kb]at y;have bc:l.length<=1000:=by rw[b1.o];exact hn
   exact kc y (kc (l1 bc bc) (by omega))
  have ex:Hid (de ltRK (I.map nt)=(pairsR l).map nt):=yL aT (λp=>uV l I (λp=>by rw[ds,b1.o]) p);have h8:Hid (Calls prog 132 #[u6,.func (.func 133) #[] #[]] wr λe w'=>e=ih (.tuple #[])/\w'.ownsRow KB 67 2 u6 I (((pairsR l).map nt).flatMap rkCells)/\Below KB w1 w'):=by have V:=dq;rw[vS]at V;have D:=wD KB wr u6 (I.map nt) (by rw[kb];exact V) (by rw[kb];exact gi);rw[kb,ex.o]at D;refine D.mono ?_;rintro e w'⟨a1,a2,a3,a4,a5,a6,a7⟩;refine⟨a1,a2,HP.o.b.trans ⟨a3,a4,a5,a6,λk Q=>a7 k (by have:=HP.o.los.2.2.2.2;omega) (λe=>by have:=(dq.lt k e).1;omega)⟩⟩
  have ht:Hid (I=(pairsR l).length):=by have:=congrArg List.length ex.o;rw[(dp _ _).length_eq,kb,kb]at this;exact this
  clear dq aT ds;go_wp2_with (go_at_call 132;refine lT h8.o ?_;rintro e w2⟨rfl,aT,b7⟩;have hw:=Z aT;have h9:=Z b7;clear aT b7)
  refine bodyPost_ret (results_tmp rfl _ _ _) rfl ⟨u6,rfl,?_,?_⟩
  .rw[em.o,<- ht.o,vS];exact hw.o
  exact e7.o.trans (h9.o.mono (by rw[em.o];exact ka _))
 have bl:q<z:=by rw[bY.o];exact aS
 have b0:q<l:=by rw[b1.o];exact aS
 obtain⟨d9,gx,dc⟩:=fb wr HP.b;have g8:=f9 q bl;have ad:=dc _ (ld bl);have gq:jU wr (h2 av n cv) z:=⟨by rw[bY.o];exact gx.mono (lP _) d9.size,λp hp=>(dc p hp).mono (ka _) d9.size⟩;obtain⟨b,off,hW,hv,k1,e0,e1,e2⟩:=gq.get q bl;have iQ:(Value.slice av n cv)=h2 (X ⟨b,off,Y⟩) n hW:=by rw[hv,bY.o]
 cases iQ;rw[g8]at ad e0 e1;have ao:=d0 q b0;obtain⟨x,hx⟩:=Qe (z[q].2);rw[hx]at ad e2;obtain⟨r,V⟩:=Qe (l.getD q rec0);have HR:=Z V;have hT:=Z hx;rw[V]at ad e0 e1 ao;obtain⟨rk,rl,A⟩:=r;dsimp only at ad e0 e1 ao;have ja:=Z (ad.kept (w:=wr) (w':=wr) (λ_ _ _=>rfl));have ib:=ad;obtain⟨a0,c0,rfl⟩:=ad.shape;have c4:=Z ao;clear d9 gx dc g8 gq hv hx V ao ib;obtain⟨G,bs⟩:=Qe (wr.alloc (hi #[J hg rk,J hg rl,h2 a0 A c0] 62));have g2:Bw wr G:=by rw[<- bs];exact(kv _ wr).alloc (ka _) _
 have hF:G.heap[wr.heap.size]?=X (hi #[J hg rk,J hg rl,h2 a0 A c0] 62 (0,0)):=by rw[<- bs];exact l3 wr _
 obtain⟨R,c9⟩:=Qe wr.heap.size;rw[c9]at hF;have HF:=Z hF;have cP:=Z (HP.below g2);have eg:Hid (∀W,Below KB w1 W->ah 0 W W (h2 a0 A c0) A):=λW hb=>by obtain⟨al,_,y⟩:=fb W hb;have y:=y _ (ld bl);have gp:=f9 q bl;rw[HR.o]at gp;rw[gp,hT.o]at y;exact y.mono (ka _) al.size
 have hC:Hid (Calls prog 129 #[.agg #[J hg rk,J hg rl,h2 a0 A c0]] G λe w'=>∃v,e=ih v/\co G w' v ⟨rk,rl,A⟩/\Bw G w'):=CP rk rl _ A G (eg G cP.b) c4.o;have fy:G=R+1:=by rw[<- bs,<- c9];simp
 have jb:=Z fy;have hR:=Z bs;have hL:=Z c9;obtain⟨d3,d4,d5⟩:G.cell? ⟨R,0,Y⟩=X (J hg rk)/\G.cell? ⟨R,1,Y⟩=X (J hg rl)/\G.cell? ⟨R,2,Y⟩=X (h2 a0 A c0):=⟨(ab hF 0).trans rfl,(ab hF 1).trans rfl,(ab hF 2).trans rfl⟩;clear bs c9 g2 hF fy ad f8;go_upto_region 8 with fail;rw[hR.o,hL.o];go_upto_region 9 with(go_at_call 129;refine lT hC.o ?_;rintro e w3⟨v3,rfl,dd,ca⟩;obtain⟨⟨ta,tb,tc,h6,h7,td,te⟩,rfl⟩:=dd.form;have a9:=Z (cP.o.below ca);have hd:=Z dd;have eb:=Z ((ca.block _ (af HF.o)).trans HF.o);have iS:=Z ca;obtain⟨t',_,z0,z1,z2,z3,z4⟩:=a9.o.kn.get b0;have f0:=a9.o.kn.frozen (q*5);have f1:=a9.o.kn.frozen (q*5+1);have f2:=a9.o.kn.frozen (q*5+2);have f3:=a9.o.kn.frozen (q*5+3);have f4:=a9.o.kn.frozen (q*5+4);unfold ftV;dsimp only;clear dd ca)
 obtain⟨E,cj⟩:=Qe (putKn w3 KB q ⟨ta,tb,tc,h6,h7,td,te⟩);have eQ:Hid (PR KB (BY+2) KB BY (BY+1) w1 E l (q+1) (ig l q []) (λp=>cameR l q [] p=true) (λp=>cameR l q [] p=true/\40<=pointsR (l.getD p.1 rec0) (l.getD p.2 rec0)) (q*a8) u6):=by
  rw[<- cj];refine a9.known b0 (co.mono (f:=G.heap.size) ?_ ?_)
  .rw[HR.o];exact hd.o
  obtain⟨m,hm,_⟩:=cP.se;exact hm.lt
 have cp:Hid (E.heap[R]?=X (hi #[J hg rk,J hg rl,h2 a0 A c0] 62 (0,0))):=by
  unfold Hid;rw[<- cj,(i7 w3 KB q _).block R (λe=>?_)]
  .exact eb.o
  obtain⟨⟨cu,ia⟩,_⟩:=a9.kn.blk;exact dw eb.o ia (by decide) e
 rw[show((((w3.setCell {block:=KB,off:=q*5} (Value.map ta)).setCell {block:=KB,off:=q*5+1} (Value.string {data:=List.toArray tb})).setCell {block:=KB,off:=q*5+2} (Value.slice tc h6 h7)).setCell {block:=KB,off:=q*5+3} td).setCell {block:=KB,off:=q*5+4} (Value.int IntKind.u8 ↑te)=E from cj];clear cj z0 z1 z2 z3 z4 f0 f1 f2 f3 f4 d3 d4 d5 e0 e1 e2;obtain⟨d3,d4,d5⟩:E.cell? ⟨R,0,Y⟩=X (J hg rk)/\E.cell? ⟨R,1,Y⟩=X (J hg rl)/\E.cell? ⟨R,2,Y⟩=X (h2 a0 A c0):=⟨(ab cp.o 0).trans rfl,(ab cp.o 1).trans rfl,(ab cp.o 2).trans rfl⟩;have e6:Hid (Calls prog 130 #[.agg #[J hg rk,J hg rl,h2 a0 A c0]] E λe w'=>∃v,e=ih v/\w'.ownsRow E 9 1 v (keysR A).length ((keysR A).map λs=>S s)/\Bw E w'):=Cd rk rl _ A E (eg E eQ.b) c4.o;have iD:(keysR A).length<=10000000000000:=AX c4.o;have eq:=Z (λs(hs:s∈keysR A)=>BH c4.o hs);have er:=Z (iy A);have bO:Hid (keysR (l.getD q rec0).fields=keysR A):=by unfold Hid;rw[HR.o]
 obtain⟨u,gd⟩:=Qe (keysR A);rw[gd]at e6 iD eq er bO;clear gd;go_upto_region 10 with(go_at_call 130;refine lT e6.o ?_;rintro e w5⟨v5,rfl,dx,g1⟩;obtain⟨a5,k5,rfl⟩:=aQ dx;have hy:=Z dx;have aa:=Z (eQ.o.below g1);clear dx g1)
 clear d3 d4 d5;go_loopw [6,34] (λv i wr=>∃p:Nat,p<=u/\i=J U p/\Hid (PR KB (BY+2) KB BY (BY+1) w1 wr l (q+1) (ig l q (u.take p)) (λd=>cameR l q (u.take p) d=true) (λd=>cameR l q (u.take p) d=true/\40<=pointsR (l.getD d.1 rec0) (l.getD d.2 rec0)) (q*a8+p) v)/\Hid (wr.ownsRow E 9 1 (h2 a5 u k5) u (u.map λs=>S s))) (λ_ i _=>u-(intOf i).toNat)
 case atStart=>exact⟨0,lP _,rfl,by rw[List.take_zero,Nat.add_zero];exact aa.o,hy.o⟩
 obtain⟨p,hp,rfl,b5,b3⟩:=hrel;by_cases hlp:p<u;rotate_left
 .have hH:Hid (PR KB (BY+2) KB BY (BY+1) w1 wr l (q+1) (ig l (q+1) []) (λd=>cameR l (q+1) [] d=true) (λd=>cameR l (q+1) [] d=true/\40<=pointsR (l.getD d.1 rec0) (l.getD d.2 rec0)) ((q+1)*a8) u6):=by
   have h:=b5.o;rw[l2 (by omega)]at h;refine h.congr (λs i=>?_) (λd=>?_) (λd=>?_) (by rw[Nat.succ_mul,e8.o];omega)
   .rw[zG,bO.o]
   .rw[oX,bO.o]
   rw[oX,bO.o]
  clear b5 b3;go_wp2_with fail;go_roundw;exact⟨q+1,aS,by go_num,hH⟩;simp[intOf];omega
 have gy:=ld hlp;have d1:Hid (u.take (p+1)=u.take p++[u[p]]):=ls hlp;have b2:Hid (u[p]∉u.take p):=λhm=>by have y:=er.1;rw[<- List.take_append_drop p u,List.drop_eq_getElem_cons hlp,lx]at y;exact y.2.2 _ hm _ List.mem_cons_self rfl
 obtain⟨g5,k9,da,_⟩:=lk b3.o (by omega);cases da;have g6:wr.cell? ⟨g5,p,Y⟩=X (S u[p]):=by rw[b3.o.cellAt p (by omega),lB,kq hlp];rfl
 have cQ:=Z (eq _ gy);obtain⟨s,hs⟩:=Qe (u[p]);rw[hs]at d1 b2 g6 cQ;clear hs gy;have bd:¬ig l q (u.take p) s q:=by
  rintro(⟨y,_⟩|⟨_,y⟩)
  .omega
  exact b2 y
 have fx:q*a8+p<=100000000000000000:=by have:=Nat.mul_le_mul_right a8 (show q<=1000 by omega);have hb:=e8.o;omega
 obtain⟨x,zs,ch,e5,e4,dz,_⟩:=b5.places fx s cQ.o q bd;obtain⟨ax,kx,rfl⟩:=aQ e5;have hV:=Z e5;have k0:=Z e4;have fr:=Z dz;have k8:zs.length<=1000:=by
  have:=fK zs (lm n) e4 (λi M=>by rw[List.mem_range];rcases(dz i).1 M with⟨y,_⟩|⟨y,_⟩<;>omega)
  rw[List.length_range]at this;omega
 clear e5 e4 dz bd;go_upto_region 13 with fail;clear ch g6;have hG:=b5;have hB:=b3;clear b5 b3;generalize wr=wB at*;go_loopw [6,42] (λv i wr=>∃j:Nat,j<=zs/\i=J U j/\Hid (PR KB (BY+2) KB BY (BY+1) w1 wr l (q+1) (ig l q (u.take p)) (λd=>cameR l q (u.take p) d=true∨d.2=q/\d.1∈zs.take j) (λd=>(cameR l q (u.take p) d=true∨d.2=q/\d.1∈zs.take j)/\40<=pointsR (l.getD d.1 rec0) (l.getD d.2 rec0)) (q*a8+p) v)/\Hid (wr.ownsRow E 9 1 (h2 g5 u k5) u (u.map λs=>S s))/\Hid (wr.ownsRow KB 3 1 (h2 ax zs kx) zs (gF zs))) (λ_ i _=>zs-(intOf i).toNat)
 case atStart=>exact⟨0,lP _,rfl,hG.o.congr (λ_ _=>Iff.rfl) (λd=>by simp) (λd=>by simp) (ka _),hB.o,hV.o⟩
 obtain⟨j,hj,rfl,c3,c1,b6⟩:=hrel;by_cases hlj:j<zs;rotate_left
 .have h4:zs.take j=zs:=l2 (by omega);have f5:Hid (PR KB (BY+2) KB BY (BY+1) w1 wr l (q+1) (ig l q (u.take p)) (λd=>cameR l q (u.take (p+1)) d=true) (λd=>cameR l q (u.take (p+1)) d=true/\40<=pointsR (l.getD d.1 rec0) (l.getD d.2 rec0)) (q*a8+p) u6):=by
   have h:=c3.o;rw[h4]at h;have e:∀d,cameR l q (u.take (p+1)) d=true↔(cameR l q (u.take p) d=true∨d.2=q/\d.1∈zs):=λd=>by rw[d1.o,xX b2.o,fr.o]
   exact h.congr (λ_ _=>Iff.rfl) e (λd=>by rw[e]) (ka _)
  clear c3 b6 h4;have bd:¬ig l q (u.take p) s q:=by
   rintro(⟨y,_⟩|⟨_,y⟩)
   .omega
   exact b2 y
  obtain⟨x,ys,ch,dy,h0,gQ,gn⟩:=f5.places fx s cQ.o q bd;obtain⟨ay,ky,rfl⟩:=aQ dy;have k7:ys.length<=1000:=by
   have:=fK ys (lm n) h0 (λi M=>by rw[List.mem_range];rcases(gQ i).1 M with⟨y,_⟩|⟨y,_⟩<;>omega)
   rw[List.length_range]at this;omega
  have fl:=Z dy;have hI:=Z gn;have k3:=f5.los.2.2.2.2;obtain⟨iN,bb,bt,bv,bw⟩:=info_parts i3;have HI:=Z bb;have cq:=Z bt;have cs:=Z bv;have cx:=Z bw;clear dy h0 gQ gn bd bb bt bv bw;have g3:Bw wr (wr.alloc (hi #[(q:Int)] 3)):=(kv _ wr).alloc (ka _) _;have bA:=Z g3;clear g3
  go_wp2_with (first
   |(at_builtin;(refine wpList_append_own_at _ rfl _ _ 84 rfl KB 3 iN (J U 0) 1 8 underlying84 HI.o cq.o cs.o cx.o rfl (by decide) (h2 ay ys ky) ys (gF ys) ?_ ?_ wr 1 1 [J U (q:Int)] ?_ ?_ ?_ ?_ ?_ ?_ ?_ ?_);(focus rfl);(focus exact aj fl.o (λg F=>bA.o.block g (fl.o.lt g F).2));(focus rfl);(focus rfl);(focus exact cell_one_new _ _ _);(focus simp[Value.oneCell']);(focus (unfold maxLen;omega));(focus omega);(focus (have:=bA.o.size;omega));intro v' w7 bk b9 _ gf;obtain⟨W8,gP,cz,gb⟩:=hI.o v' _ w7 bA.o b9 bk gf;have hO:=Z gP;have cz:=Z cz;have hf:=Z gb;clear bk b9 gf gP gb)
   |(at_mapUpdate;refine wpList_plain rfl λK hK=>?_;refine fZ rfl hO.o ?_;refine hK _ _ ?_))
  go_roundw
  case rel=>
   refine⟨p+1,hlp,by go_num,cz.o.congr (λt i=>?_) (λ_=>Iff.rfl) (λ_=>Iff.rfl) (by omega),aj c1.o (λg F=>?_)⟩
   .rw[d1.o,zF]
   obtain⟨c,L⟩:=aK c1.o F;have D:=bA.block g (af L);exact(hf g c (D.trans L)).trans D
  simp[intOf];omega
 obtain⟨gz,kz,da,_⟩:=lk b6.o (by omega);cases da;have h3:wr.cell? ⟨gz,j,Y⟩=X (J U (zs[j]:Int)):=by rw[b6.o.cellAt j (by omega)];unfold gF;rw[lB,kq hlj];rfl
 have e3:=(fr zs[j]).1 (ld hlj);have c5:Hid (zs.take (j+1)=zs.take j++[zs[j]]):=ls hlj;obtain⟨i,M⟩:=Qe (zs[j]);rw[M]at h3 e3 c5;have iv:i<q:=by
  rcases e3 with⟨y,_⟩|⟨_,y⟩
  .exact y
  exact absurd y b2.o
 clear M e3;obtain⟨wz,cl⟩:=Qe (wr.alloc (hi #[(i:Int),(q:Int)] 211));have b8:Bw wr wz:=by rw[<- cl];exact(kv _ wr).alloc (ka _) _
 have hZ:wz.heap[wr.heap.size]?=X (hi #[(i:Int),(q:Int)] 211 (0,0)):=by rw[<- cl];exact l3 wr _
 obtain⟨sb,gt,ch,W5,gO,aa,g4⟩:=(c3.o.below b8).seen (by rw[b1.o];exact hn) i q iv b0;have hJ:=Z (c3.below b8);have cy:Hid (wz.ownsRow E 9 1 (h2 g5 u k5) u (u.map λs=>S s)):=aj c1.o (λg F=>b8.block g (c1.lt g F).2);have d2:Hid (wz.ownsRow KB 3 1 (h2 gz zs kx) zs (gF zs)):=aj b6.o (λg F=>b8.block g (b6.lt g F).2);obtain⟨z0,z1⟩:=du hZ;have hS:=Z cl;obtain⟨Rz,d6⟩:=Qe wr.heap.size;rw[d6]at z0 z1;have hM:=Z d6;have fc:=Z gt;have aa:=Z aa;have hN:=Z gO;have e9:=Z g4;clear cl b8 hZ d6 gt gO g4;go_upto_region 16 with fail;rw[hS.o,hM.o];clear h3;cases sb;rotate_left
 .have HC:=Z (fc.1 rfl);go_wp2_with fail;go_roundw
  case rel=>
   refine⟨j+1,hlj,by go_num,hJ.congr (λ_ _=>Iff.rfl) (λd=>?_) (λd=>?_) (ka _),cy.o,d2.o⟩
   .rw[c5.o];exact(ow (C:=λd=>cameR l q (u.take p) d=true) HC.o d).symm
   rw[c5.o];exact and_congr_left' (ow (C:=λd=>cameR l q (u.take p) d=true) HC.o d).symm
  simp[intOf];omega
 have hu:=Z (λL=>Bool.false_ne_true (fc.2 L));go_upto_region 18 with(at_mapUpdate;refine wpList_plain rfl λK hK=>?_;refine fZ rfl hN.o ?_;refine hK _ _ ?_)
 have hY:=aa.o.kn.get (i:=i) (by omega);have i6:=aa.kn.get (i:=q) b0;obtain⟨⟨x1,x2,x3,x4,x5,x6,x7⟩,cd,i0,i1,i2,i3,i4⟩:=hY;obtain⟨⟨y1,y2,y3,y4,y5,y6,y7⟩,cg,j0,j1,j2,j3,j4⟩:=i6;dsimp only at i0 i1 i2 i3 i4 j0 j1 j2 j3 j4;have cd:=cd (by omega);have cg:=cg (by omega);have hX:=aa.kn.blk.2.1
 have hh:Hid (∀W,Bw W5 W->(W.cell? ⟨KB,i*5,Y⟩=X (.map x1)/\W.cell? ⟨KB,i*5+1,Y⟩=X (S x2)/\W.cell? ⟨KB,i*5+2,Y⟩=X (h2 x3 x4 x5)/\W.cell? ⟨KB,i*5+3,Y⟩=X (J U x6)/\W.cell? ⟨KB,i*5+4,Y⟩=X (J hg x7))/\
  (W.cell? ⟨KB,q*5,Y⟩=X (.map y1)/\W.cell? ⟨KB,q*5+1,Y⟩=X (S y2)/\W.cell? ⟨KB,q*5+2,Y⟩=X (h2 y3 y4 y5)/\W.cell? ⟨KB,q*5+3,Y⟩=X (J U y6)/\W.cell? ⟨KB,q*5+4,Y⟩=X (J hg y7))):=λW hb=>by
  have Q:∀o,W.cell? ⟨KB,o,Y⟩=W5.cell? ⟨KB,o,Y⟩:=λo=>World.cell?_of_block (a:=⟨KB,o,Y⟩) (hb.block KB hX)
  rw[Q,Q,Q,Q,Q,Q,Q,Q,Q,Q]
  exact⟨⟨i0,i1,i2,i3,i4⟩,j0,j1,j2,j3,j4⟩
 have it:i<l:=by omega
 have k2:i<n:=by omega
 have f7:Hid (∀W,Bw W5 W->Calls prog 131 #[.agg #[.map x1,S x2,h2 x3 x4 x5,x6,J hg x7],.agg #[.map y1,S y2,h2 y3 y4 y5,y6,J hg y7]] W λe w'=>e=ih (pointsR (l.getD i rec0) (l.getD q rec0))/\Bw W w'):=λW hb=>
  uf _ _ _ _ _ _ W (co.below cd hb) (co.below cg hb) (eW (d0 i it)) (eW (d0 q b0))
 clear i0 i1 i2 i3 i4 j0 j1 j2 j3 j4 cd cg ch z0 z1;obtain⟨P,hP⟩:=Qe (pointsR (l.getD i rec0) (l.getD q rec0));have f6:=Z hP;rw[hP]at f7;clear hP;go_simp;have al:Bw W5 W5.drew:=(kv _ W5).drew;refine Wb W5 999 ?_;refine Qd [0,1,2,3,4,5,6,7] al hh ?_;refine Dq 8 λK hK=>?_;go_simp;go_at_call 131;refine lT (f7 _ al) ?_;rintro e T⟨rfl,ac⟩;have ac:Bw W5 T:=al.trans (ac.mono al.size);refine hK _ _ (λ_=>ac) ?_;clear hK K;refine Qc [9] ac ?_
 refine dN ?_;have az:=Z (aa.below ac);have es:Hid (T.ownsRow E 9 1 (h2 g5 u k5) u (u.map λs=>S s)):=aj cy.o (λg F=>by obtain⟨c,L⟩:=aK cy.o F;have h5:=e9 g c 9 L;exact(ac.block g (af (h5.trans L))).trans h5)
 have fp:Hid (T.ownsRow KB 3 1 (h2 gz zs kx) zs (gF zs)):=aj d2.o (λg F=>by obtain⟨c,L⟩:=aK d2.o F;have h5:=e9 g c 3 L;exact(ac.block g (af (h5.trans L))).trans h5)
 clear ac al;have bB:Hid (∀d,(cameR l q (u.take p) d=true∨d.2=q/\d.1∈zs.take (j+1))↔((cameR l q (u.take p) d=true∨d.2=q/\d.1∈zs.take j)∨d=(i,q))):=λd=>by rw[c5.o];exact uh (C:=λd=>cameR l q (u.take p) d=true) d
 by_cases hP40:40<=P;rotate_left
 .go_wp2_with fail;go_roundw
  case rel=>
   refine⟨j+1,hlj,by go_num,az.congr (λ_ _=>Iff.rfl) bB.o (λd=>?_) (ka _),es.o,fp.o⟩;rw[bB.o];constructor
   .rintro⟨y|y,D⟩
    .exact⟨y,D⟩
    rw[y]at D;dsimp only at D;rw[f6.o]at D;exact absurd D hP40
   rintro⟨y,D⟩;exact⟨.inl y,D⟩
  simp[intOf];omega
 obtain⟨I,ho⟩:=az.o.o;obtain⟨au,cu,rfl⟩:=aQ ho.1;have HO:=Z ho;have gi:I.length<=1000000:=by
  have y:=mx (n:=l.length) (m:=I.map nt) (by
   rw[List.Nodup,lv];refine List.Pairwise.imp ?_ ho.2.1;intro a b d7 e;injection e with e1 e2
   exact d7 (Prod.ext (by omega) (by omega))) (λp hp=>by
   obtain⟨o,iP,rfl⟩:=List.mem_map.1 hp;have:=az.cb _ (az.ob _ ((ho.2.2 o).1 iP));exact⟨o.1,o.2,rfl,by omega,this.2⟩)
  rw[kb]at y;have bc:l.length<=1000:=by rw[b1.o];exact hn
  exact kc y (kc (l1 bc bc) (by omega))
 have k4:KB<=T:=az.los.2.2.2.2;obtain⟨iN,bb,bt,bv,bw⟩:=info_parts i67;have HI:=Z bb;have cq:=Z bt;have cs:=Z bv;have cx:=Z bw;clear ho bb bt bv bw;go_wp2_with (at_builtin;(refine wpList_append_own_at _ rfl _ _ 65 rfl KB 67 iN (.agg #[J U 0,J U 0]) 2 16 underlying65 HI.o cq.o cs.o cx.o rfl (by decide) (h2 au I cu) I (I.flatMap cX) ?_ ?_ T 1 1 [J U (i:Int),J U (q:Int)] ?_ ?_ ?_ ?_ ?_ ?_ ?_ ?_);(focus rfl);(focus exact aj HO.o.1 (λg F=>((kv _ T).alloc (ka _) _).block g (HO.o.1.lt g F).2));(focus rfl);(focus rfl);(focus exact cell_two_new _ _ _ _);(focus simp[Value.oneCell']);(focus (unfold maxLen;omega));(focus omega);(focus (simp;omega));intro v' w7 bk b9 _ _;have hA:=Z bk;have ej:=Z b9;clear bk b9)
 have d8:Bw T (T.alloc (hi #[(i:Int),(q:Int)] 67)):=(kv _ T).alloc (ka _) _;have hD:=az.outs (i:=i) (k:=q) (.inr rfl) (λh=>hu h.1) d8 ej.o HO.o hA.o;have g7:∀{lo e n:Nat}{v:ko}{z:List ko},T.ownsRow lo e 1 v n z->e≠67->w7.ownsRow lo e 1 v n z:=λ{lo e n v z}V he=>aj V (λg F=>by
  have aS:=(V.lt g F).2;rw[ej.o.block g (lp aS d8.size) (λe2=>by obtain⟨c,L⟩:=aK V F;obtain⟨c2,i8⟩:=aK HO.1 e2.symm;exact dw L i8 he rfl)]
  exact d8.block g aS)
 go_roundw
 case rel=>
  refine⟨j+1,hlj,by go_num,hD.congr (λ_ _=>Iff.rfl) bB.o (λd=>?_) (ka _),g7 es.o (by decide),g7 fp.o (by decide)⟩;rw[bB.o];constructor
  .rintro⟨y|y,D⟩
   .exact .inl ⟨y,D⟩
   exact .inr y
  rintro(⟨y,D⟩|y)
  .exact⟨.inl y,D⟩
  refine⟨.inr y,?_⟩;rw[y];dsimp only;rw[f6.o];exact hP40
 simp[intOf];omega
end
end Go.Proofs.YtjcimanddakkaaaGreatDoor
