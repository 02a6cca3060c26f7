/- Declarations that the statement's proof uses; each names its own conditions. -/
-- PRINTED BY print.sh 35421559b90ae4d0a3588c463048766b98c2df88dd9212a6774a882060cdf62d: not written by this session
import Derived.Test.YtjgijaocinpkhaaDoorT2WApart
import Derived.Test.YtjgijaocinpkhaaDoorT2WArr
/-! ### 42. append(v, make([]T, n)...): the operation comes as_ append with the number in the second place -/
namespace Go.Proofs.YtjgijaocinpkhaaDoorW.PrintWords
open Go.RowKit
namespace Kd
/-! #### the same for rows whose elements lie apart -/
end Kd
end Go.Proofs.YtjgijaocinpkhaaDoorW.PrintWords
