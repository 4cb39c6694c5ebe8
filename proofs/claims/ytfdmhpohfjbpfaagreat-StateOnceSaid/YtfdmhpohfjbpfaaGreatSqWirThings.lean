import Derived.Test.YtfdmhpohfjbpfaaGreatSq10
set_option linter.unusedVariables false
set_option linter.unusedSimpArgs false
namespace Go.Proofs.YtfdmhpohfjbpfaaGreat
def Short (n:Nat):Prop:= n<9223372036854775808
def KindIn (k:Int):Prop:= -128≤ k∧k< 128
theorem bind_w {α β:Type} {o:List UInt8→Nat→ Got α} {f:α→ List UInt8→Nat→ Got β} {e1:α→ List UInt8} {g1:α→ Prop} {E:α→ β→List UInt8} {G:α→ β→Prop} {enc:β→ List UInt8} {good:β→ Prop}
 (h:Wrote1 o e1 g1) (h2:∀a,g1 a→Wrote1 (f a) (E a) (G a)) (hj:∀a y,g1 a→G a y→enc y=e1 a++E a y∧good y):Wrote1 (fun l p=>bindP (o l p) fun a q=>f a l q) enc good:=fun l p y q hp hr=>by
 obtain⟨a,h3,h4,h5,h6,h7⟩:=bind_wrote h h2 hp hr
 obtain⟨h8,h9⟩:=hj a y h3 h7
 exact⟨h4,h5,by rw[h6,h8],h9⟩
theorem map_w {α β:Type} {o:List UInt8→Nat→ Got α} {g:α→ β} {e1:α→ List UInt8} {g1:α→ Prop} {enc:β→ List UInt8} {good:β→ Prop} (h:Wrote1 o e1 g1) (hj:∀a,g1 a→enc (g a)=e1 a∧good (g a)):
 Wrote1 (fun l p=>bindP (o l p) fun a q=> .ok (g a,q)) enc good:=
 bind_w (f:=fun a _ p=> .ok (g a,p)) (E:=fun _ _=>[]) (G:=fun a y=>y= g a) h (fun a _=>pure_wrote (g a)) (fun a y h1 h2=>by subst h2;rw[List.append_nil];exact hj a h1)
theorem num_wrote:Wrote1 numP be8 InI:=map_w (need_wrote 8) fun b hb=>⟨be8_num8 hb,num8_in hb⟩
theorem small_wrote:Wrote1 smallP (fun b=>[b]) (fun _=>True):=map_w (need_wrote 1) fun b hb=>by
 match b,hb with
 |[c],_=>exact ⟨rfl,trivial⟩
theorem kind_wrote:Wrote1 kindP (fun k=>[kindB k]) KindIn:=map_w small_wrote fun b _=>⟨by rw[kindB_kindI],kindI_in b⟩
theorem truth_wrote:Wrote1 truthP (fun x=>[truthB x]) (fun _=>True):=fun l p x q hp h=>by
 unfold truthP at h
 cases hs:smallP l p with
 |error e=>rw [hs]at h;cases h
 |ok v=>
  obtain⟨b,m⟩:=v
  rw[hs]at h
  simp only[bindP]at h
  split at h
  ·cases h
  ·rename_i hb
   simp only[Except.ok.injEq,Prod.mk.injEq]at h
   obtain⟨rfl,rfl⟩:=h
   obtain⟨i1,i2,i3,_⟩:=small_wrote l p b m hp hs
   refine⟨i1,i2,?_,trivial⟩
   rw[i3]
   have h01:b.toNat= 0∨b.toNat= 1:=by omega
   rcases h01 with h0|h0
   ·have:b= 0:=UInt8.toNat_inj.1 (by rw[h0];rfl)
    subst this;rfl
   ·have:b= 1:=UInt8.toNat_inj.1 (by rw[h0];rfl)
    subst this;rfl
theorem count_wrote (size:Nat):Wrote1 (countP size) (fun n=>be8 (n:Int)) (fun n=>Short n):=fun l p n q hp h=>by
 unfold countP at h
 cases hs:numP l p with
 |error e=>rw [hs]at h;cases h
 |ok v=>
  obtain⟨b,m⟩:=v
  rw[hs]at h
  simp only[bindP]at h
  split at h
  ·cases h
  ·rename_i hb
   simp only[Except.ok.injEq,Prod.mk.injEq]at h
   obtain⟨rfl,rfl⟩:=h
   obtain⟨i1,i2,i3,i4⟩:=num_wrote l p b m hp hs
   have e:((b.toNat:Nat):Int)=b:= by omega
   refine⟨i1,i2,by rw[i3];simp only[e],?_⟩
   unfold InI at i4;unfold Short;omega
theorem times_wrote {α:Type} {one:List UInt8→Nat→ Got α} {enc:α→ List UInt8} {good:α→ Prop} (h:Wrote1 one enc good):∀n,Wrote1 (timesP one n) (fun xs=>xs.flatMap enc) (fun xs=>xs.length= n∧∀x∈ xs,good x)
 |0=> fun l p x q hp hr=>by
  obtain⟨i1,i2,i3,rfl⟩:=pure_wrote ([]:List α) l p x q hp hr
  exact⟨i1,i2,i3,rfl,by simp⟩
 |n+ 1=>bind_w (f:=fun x l q=>bindP (timesP one n l q) fun xs q=> .ok (x::xs,q)) (E:=fun _ y=>y.tail.flatMap enc) (G:=fun a y=>∃xs,y=a:: xs∧xs.length= n∧∀x∈ xs,good x) h
  (fun a _=>map_w (times_wrote h n) fun xs hx=>⟨rfl,xs,rfl,hx⟩)
  (fun a y h1 h2=>by
   obtain⟨xs,rfl,h3,h4⟩:=h2
   exact⟨rfl,by rw[List.length_cons,h3],fun x hx=>by rcases List.mem_cons.1 hx with rfl|hx;exact h1;exact h4 x hx⟩)
theorem list_wrote {α:Type} {one:List UInt8→Nat→ Got α} {enc:α→ List UInt8} {good:α→ Prop} (size:Nat) (h:Wrote1 one enc good):Wrote1 (listP size one) (fun xs=>be8 xs.length++xs.flatMap enc) (fun xs=>Short xs.length∧∀x∈ xs,good x):=
 bind_w (E:=fun _ xs=>xs.flatMap enc) (G:=fun n xs=>xs.length= n∧∀x∈ xs,good x) (count_wrote size) (fun n _=>times_wrote h n) (fun n y h1 h2=>by obtain⟨rfl,h3⟩:=h2;exact⟨rfl,h1,h3⟩)
theorem num_list_wrote:Wrote1 (listP 8 numP) (fun xs=>be8 xs.length++xs.flatMap be8) (fun xs=>Short xs.length∧∀y∈ xs,InI y):=list_wrote 8 num_wrote
structure WEnt where
 term:Int
 kind:Int
 stamp:Int
 set:UInt8
 data:List UInt8
 deriving DecidableEq
structure WCmd where
 kind:Int
 client:Int
 number:Int
 tenant:Int
 rate:Int
 burst:Int
 shaper:Int
 epoch:Int
 lease:Int
 size:Int
 spent:Int
 closed:Bool
 leases:List Int
 deriving DecidableEq
def encWCmd (x:WCmd):List UInt8:=[kindB x.kind]++(be8 x.client++(be8 x.number++(be8 x.tenant++(be8 x.rate++(be8 x.burst++(be8 x.shaper++(be8 x.epoch++(be8 x.lease++(be8 x.size++(be8 x.spent++([truthB x.closed]++((be8 x.leases.length++x.leases.flatMap be8)))))))))))))
def goodWCmd (x:WCmd):Prop:= KindIn x.kind∧InI x.client∧InI x.number∧InI x.tenant∧InI x.rate∧InI x.burst∧InI x.shaper∧InI x.epoch∧InI x.lease∧InI x.size∧InI x.spent∧True∧ (Short x.leases.length∧∀y∈ x.leases,InI y)
def wCmdP (l:List UInt8) (p:Nat):Got WCmd:=bindP (kindP l p) fun v0 p=>bindP (numP l p) fun v1 p=>bindP (numP l p) fun v2 p=>bindP (numP l p) fun v3 p=>bindP (numP l p) fun v4 p=>bindP (numP l p) fun v5 p=>bindP (numP l p) fun v6 p=>bindP (numP l p) fun v7 p=>bindP (numP l p) fun v8 p=>bindP (numP l p) fun v9 p=>bindP (numP l p) fun v10 p=>bindP (truthP l p) fun v11 p=>bindP (listP 8 numP l p) fun v12 p=> .ok (⟨v0,v1,v2,v3,v4,v5,v6,v7,v8,v9,v10,v11,v12⟩,p)
theorem wCmd_wrote:Wrote1 wCmdP encWCmd goodWCmd:=by
 refine bind_w (E:=fun _ x=>be8 x.client++(be8 x.number++(be8 x.tenant++(be8 x.rate++(be8 x.burst++(be8 x.shaper++(be8 x.epoch++(be8 x.lease++(be8 x.size++(be8 x.spent++([truthB x.closed]++((be8 x.leases.length++x.leases.flatMap be8))))))))))))) (G:=fun v0 x=>x.kind= v0∧InI x.client∧InI x.number∧InI x.tenant∧InI x.rate∧InI x.burst∧InI x.shaper∧InI x.epoch∧InI x.lease∧InI x.size∧InI x.spent∧True∧ (Short x.leases.length∧∀y∈ x.leases,InI y)) kind_wrote (fun v0 g0=> ?_) (fun v0 x g0 gx=> ?_)
 ·skip
  refine bind_w (E:=fun _ x=>be8 x.number++(be8 x.tenant++(be8 x.rate++(be8 x.burst++(be8 x.shaper++(be8 x.epoch++(be8 x.lease++(be8 x.size++(be8 x.spent++([truthB x.closed]++((be8 x.leases.length++x.leases.flatMap be8)))))))))))) (G:=fun v1 x=>x.kind= v0∧x.client= v1∧InI x.number∧InI x.tenant∧InI x.rate∧InI x.burst∧InI x.shaper∧InI x.epoch∧InI x.lease∧InI x.size∧InI x.spent∧True∧ (Short x.leases.length∧∀y∈ x.leases,InI y)) num_wrote (fun v1 g1=> ?_) (fun v1 x g1 gx=> ?_)
  ·skip
   refine bind_w (E:=fun _ x=>be8 x.tenant++(be8 x.rate++(be8 x.burst++(be8 x.shaper++(be8 x.epoch++(be8 x.lease++(be8 x.size++(be8 x.spent++([truthB x.closed]++((be8 x.leases.length++x.leases.flatMap be8))))))))))) (G:=fun v2 x=>x.kind= v0∧x.client= v1∧x.number= v2∧InI x.tenant∧InI x.rate∧InI x.burst∧InI x.shaper∧InI x.epoch∧InI x.lease∧InI x.size∧InI x.spent∧True∧ (Short x.leases.length∧∀y∈ x.leases,InI y)) num_wrote (fun v2 g2=> ?_) (fun v2 x g2 gx=> ?_)
   ·skip
    refine bind_w (E:=fun _ x=>be8 x.rate++(be8 x.burst++(be8 x.shaper++(be8 x.epoch++(be8 x.lease++(be8 x.size++(be8 x.spent++([truthB x.closed]++((be8 x.leases.length++x.leases.flatMap be8)))))))))) (G:=fun v3 x=>x.kind= v0∧x.client= v1∧x.number= v2∧x.tenant= v3∧InI x.rate∧InI x.burst∧InI x.shaper∧InI x.epoch∧InI x.lease∧InI x.size∧InI x.spent∧True∧ (Short x.leases.length∧∀y∈ x.leases,InI y)) num_wrote (fun v3 g3=> ?_) (fun v3 x g3 gx=> ?_)
    ·skip
     refine bind_w (E:=fun _ x=>be8 x.burst++(be8 x.shaper++(be8 x.epoch++(be8 x.lease++(be8 x.size++(be8 x.spent++([truthB x.closed]++((be8 x.leases.length++x.leases.flatMap be8))))))))) (G:=fun v4 x=>x.kind= v0∧x.client= v1∧x.number= v2∧x.tenant= v3∧x.rate= v4∧InI x.burst∧InI x.shaper∧InI x.epoch∧InI x.lease∧InI x.size∧InI x.spent∧True∧ (Short x.leases.length∧∀y∈ x.leases,InI y)) num_wrote (fun v4 g4=> ?_) (fun v4 x g4 gx=> ?_)
     ·skip
      refine bind_w (E:=fun _ x=>be8 x.shaper++(be8 x.epoch++(be8 x.lease++(be8 x.size++(be8 x.spent++([truthB x.closed]++((be8 x.leases.length++x.leases.flatMap be8)))))))) (G:=fun v5 x=>x.kind= v0∧x.client= v1∧x.number= v2∧x.tenant= v3∧x.rate= v4∧x.burst= v5∧InI x.shaper∧InI x.epoch∧InI x.lease∧InI x.size∧InI x.spent∧True∧ (Short x.leases.length∧∀y∈ x.leases,InI y)) num_wrote (fun v5 g5=> ?_) (fun v5 x g5 gx=> ?_)
      ·skip
       refine bind_w (E:=fun _ x=>be8 x.epoch++(be8 x.lease++(be8 x.size++(be8 x.spent++([truthB x.closed]++((be8 x.leases.length++x.leases.flatMap be8))))))) (G:=fun v6 x=>x.kind= v0∧x.client= v1∧x.number= v2∧x.tenant= v3∧x.rate= v4∧x.burst= v5∧x.shaper= v6∧InI x.epoch∧InI x.lease∧InI x.size∧InI x.spent∧True∧ (Short x.leases.length∧∀y∈ x.leases,InI y)) num_wrote (fun v6 g6=> ?_) (fun v6 x g6 gx=> ?_)
       ·skip
        refine bind_w (E:=fun _ x=>be8 x.lease++(be8 x.size++(be8 x.spent++([truthB x.closed]++((be8 x.leases.length++x.leases.flatMap be8)))))) (G:=fun v7 x=>x.kind= v0∧x.client= v1∧x.number= v2∧x.tenant= v3∧x.rate= v4∧x.burst= v5∧x.shaper= v6∧x.epoch= v7∧InI x.lease∧InI x.size∧InI x.spent∧True∧ (Short x.leases.length∧∀y∈ x.leases,InI y)) num_wrote (fun v7 g7=> ?_) (fun v7 x g7 gx=> ?_)
        ·skip
         refine bind_w (E:=fun _ x=>be8 x.size++(be8 x.spent++([truthB x.closed]++((be8 x.leases.length++x.leases.flatMap be8))))) (G:=fun v8 x=>x.kind= v0∧x.client= v1∧x.number= v2∧x.tenant= v3∧x.rate= v4∧x.burst= v5∧x.shaper= v6∧x.epoch= v7∧x.lease= v8∧InI x.size∧InI x.spent∧True∧ (Short x.leases.length∧∀y∈ x.leases,InI y)) num_wrote (fun v8 g8=> ?_) (fun v8 x g8 gx=> ?_)
         ·skip
          refine bind_w (E:=fun _ x=>be8 x.spent++([truthB x.closed]++((be8 x.leases.length++x.leases.flatMap be8)))) (G:=fun v9 x=>x.kind= v0∧x.client= v1∧x.number= v2∧x.tenant= v3∧x.rate= v4∧x.burst= v5∧x.shaper= v6∧x.epoch= v7∧x.lease= v8∧x.size= v9∧InI x.spent∧True∧ (Short x.leases.length∧∀y∈ x.leases,InI y)) num_wrote (fun v9 g9=> ?_) (fun v9 x g9 gx=> ?_)
          ·skip
           refine bind_w (E:=fun _ x=>[truthB x.closed]++((be8 x.leases.length++x.leases.flatMap be8))) (G:=fun v10 x=>x.kind= v0∧x.client= v1∧x.number= v2∧x.tenant= v3∧x.rate= v4∧x.burst= v5∧x.shaper= v6∧x.epoch= v7∧x.lease= v8∧x.size= v9∧x.spent= v10∧True∧ (Short x.leases.length∧∀y∈ x.leases,InI y)) num_wrote (fun v10 g10=> ?_) (fun v10 x g10 gx=> ?_)
           ·skip
            refine bind_w (E:=fun _ x=>(be8 x.leases.length++x.leases.flatMap be8)) (G:=fun v11 x=>x.kind= v0∧x.client= v1∧x.number= v2∧x.tenant= v3∧x.rate= v4∧x.burst= v5∧x.shaper= v6∧x.epoch= v7∧x.lease= v8∧x.size= v9∧x.spent= v10∧x.closed= v11∧(Short x.leases.length∧∀y∈ x.leases,InI y)) truth_wrote (fun v11 g11=> ?_) (fun v11 x g11 gx=> ?_)
            ·skip
             refine map_w num_list_wrote fun v12 g12=>⟨rfl,?_⟩
             exact⟨rfl,rfl,rfl,rfl,rfl,rfl,rfl,rfl,rfl,rfl,rfl,rfl,g12⟩
            ·obtain⟨e0,e1,e2,e3,e4,e5,e6,e7,e8,e9,e10,e11,r12⟩:=gx
             subst e11
             exact⟨rfl,e0,e1,e2,e3,e4,e5,e6,e7,e8,e9,e10,g11,r12⟩
           ·obtain⟨e0,e1,e2,e3,e4,e5,e6,e7,e8,e9,e10,r11,r12⟩:=gx
            subst e10
            exact⟨rfl,e0,e1,e2,e3,e4,e5,e6,e7,e8,e9,g10,r11,r12⟩
          ·obtain⟨e0,e1,e2,e3,e4,e5,e6,e7,e8,e9,r10,r11,r12⟩:=gx
           subst e9
           exact⟨rfl,e0,e1,e2,e3,e4,e5,e6,e7,e8,g9,r10,r11,r12⟩
         ·obtain⟨e0,e1,e2,e3,e4,e5,e6,e7,e8,r9,r10,r11,r12⟩:=gx
          subst e8
          exact⟨rfl,e0,e1,e2,e3,e4,e5,e6,e7,g8,r9,r10,r11,r12⟩
        ·obtain⟨e0,e1,e2,e3,e4,e5,e6,e7,r8,r9,r10,r11,r12⟩:=gx
         subst e7
         exact⟨rfl,e0,e1,e2,e3,e4,e5,e6,g7,r8,r9,r10,r11,r12⟩
       ·obtain⟨e0,e1,e2,e3,e4,e5,e6,r7,r8,r9,r10,r11,r12⟩:=gx
        subst e6
        exact⟨rfl,e0,e1,e2,e3,e4,e5,g6,r7,r8,r9,r10,r11,r12⟩
      ·obtain⟨e0,e1,e2,e3,e4,e5,r6,r7,r8,r9,r10,r11,r12⟩:=gx
       subst e5
       exact⟨rfl,e0,e1,e2,e3,e4,g5,r6,r7,r8,r9,r10,r11,r12⟩
     ·obtain⟨e0,e1,e2,e3,e4,r5,r6,r7,r8,r9,r10,r11,r12⟩:=gx
      subst e4
      exact⟨rfl,e0,e1,e2,e3,g4,r5,r6,r7,r8,r9,r10,r11,r12⟩
    ·obtain⟨e0,e1,e2,e3,r4,r5,r6,r7,r8,r9,r10,r11,r12⟩:=gx
     subst e3
     exact⟨rfl,e0,e1,e2,g3,r4,r5,r6,r7,r8,r9,r10,r11,r12⟩
   ·obtain⟨e0,e1,e2,r3,r4,r5,r6,r7,r8,r9,r10,r11,r12⟩:=gx
    subst e2
    exact⟨rfl,e0,e1,g2,r3,r4,r5,r6,r7,r8,r9,r10,r11,r12⟩
  ·obtain⟨e0,e1,r2,r3,r4,r5,r6,r7,r8,r9,r10,r11,r12⟩:=gx
   subst e1
   exact⟨rfl,e0,g1,r2,r3,r4,r5,r6,r7,r8,r9,r10,r11,r12⟩
 ·obtain⟨e0,r1,r2,r3,r4,r5,r6,r7,r8,r9,r10,r11,r12⟩:=gx
  subst e0
  exact⟨rfl,g0,r1,r2,r3,r4,r5,r6,r7,r8,r9,r10,r11,r12⟩
theorem written_read {α:Type} {one:List UInt8→Nat→ Got α} {enc:α→ List UInt8} {good:α→ Prop} {zero x:α} {l:List UInt8} {f:Nat} (h:Wrote1 one enc good) (hr:readP zero one l=(x,f,0)):enc x=l∧ good x:=by
 unfold readP at hr
 split at hr
 ·simp at hr
 ·split at hr
  ·simp at hr
  ·rename_i y q he
   split at hr
   ·simp at hr
   ·rename_i hq
    simp only[Prod.mk.injEq]at hr
    obtain⟨rfl,-⟩:=hr
    obtain⟨h1,h2,h3,h4⟩:=h l 0 y q (Nat.zero_le _) he
    have:q= l.length:=by omega
    subst this
    refine⟨?_,h4⟩
    rw[←h3];simp
end Go.Proofs.YtfdmhpohfjbpfaaGreat
