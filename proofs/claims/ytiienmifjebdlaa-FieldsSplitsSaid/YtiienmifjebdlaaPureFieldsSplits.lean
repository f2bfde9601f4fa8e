/- The pure statement of FieldsSplits holds: of every text of at most 2^47 - 4096 bytes Split answers what the reference answers, and again. -/
import Derived.Test.YtiienmifjebdlaaR2
namespace Go.Proofs.Ytiienmifjebdlaa.Pure

theorem FieldsSplits : Go.Proofs.Ytiienmifjebdlaa.Q.vouchlaw13_FieldsSplits.Pure := Go.Proofs.Ytiienmifjebdlaa.Q.FieldsSplits_pure

end Go.Proofs.Ytiienmifjebdlaa.Pure
